/- Part 6 of the proof. -/
import Derived.Test.YtffclglpjlcojaaGreatPart5
set_option maxRecDepth 20000
set_option maxHeartbeats 8000000
namespace Go.Proofs.YtffclglpjlcojaaGreat
open Go.GV Go.Proofs.Tryz
attribute [local irreducible] A7 W Wq Wt
def arcB(g:Gr)(p:Nat->Int)(a:Nat):Bool:=decide (0<=g.len p a)
def Ja(N:Int)(es:List Ed)(fl pot:List Int):Bool:=Cu N es fl && (GL N pot && (EU (Cs es) (flE fl) es.length).all (arcB (grE N es) (Fk pot)))
theorem Aju(N:Int)(a b p:Option Addr)(n c m d q r:Nat)(es:List Ed)(fl pot:List Int)(w:World)(R:Rd w a 4 CO es)(hn:es.length=n)(hN:I64 N)(Rf:Rd w b 1 I1 fl)(hm:fl.length=m)(hm2:m<=9223372036854775000)(Rp:Rd w p 1 I1 pot)(hq:pot.length=q)(hq2:q<=9223372036854775000) :
  Ret prog 192 #[Eo N a n c,.slice b m d,.slice p q r] w fun v w'=>v=.bool (Ja N es fl pot)/\Ext [] w w':=by
 subst hn hm hq;obtain⟨w0,rfl,H⟩:=qE w;refine Ii (fn:=f192) func192 U [Eo N a es.length c,.slice b fl.length d,.slice p pot.length r] U (Ae (Bu [.int .i64 N,.slice a es.length c] (.agg _) U U H ?_));rintro b3 w - H;refine Bc zc_4 H ?_;rintro b6 w - H;refine qA (Ax (Ae (Cg CE Ct U H at1 U (Ap U (Al qB (LC N a b es.length c fl.length d es fl _ (R.ext0 H.ext) U hN (Rf.ext0 H.ext) U hm2) U ?_)))));rintro v w ⟨rfl,hx12⟩;replace H:=H.call hx12;refine BP U (A2 U (AR 14 U ?_ ?_))
 .intro h1;replace h1:=BM h1;refine Ag U (Ag U (Ag U (Ag U (Ag U (AA U (.bool _) U (qA (DB U (Ae (Cb (.bool _) Aac U U U H at0 (by decide) ?_)))))))));rintro w H;refine qA (A5 (Av (Lg U U ?_)));have h1':Cu N es fl=false:=by simpa using h1
  exact⟨_,Gw LI (by rw[Aj (H.get at0)];rfl),qaa Value.bool (by unfold Ja;rw[h1'];rfl),H.ext⟩
 .intro h1;replace h1:=BN h1;have h1':Cu N es fl=true:=by simpa using h1
  refine Ap U (Be Bf U (Ah Ev U (AG Cc U H at1 U (CK U U (AJ U (.bool _) U (qA (Aw _ U ?_ ?_)))))))
  .intro h2;replace h2:=CY h2;refine Ae (Cb (.bool _) Aac U U U H at0 (by decide) ?_);rintro w H;refine qA (A5 (Av (Lg U U ?_)));have h2':GL N pot=false:=by unfold GL;rw[qa2 h2,qc4]
   exact⟨_,Gw LI (by rw[Aj (H.get at0)];rfl),qaa Value.bool (by unfold Ja;rw[h2',qdv,qc4]),H.ext⟩
  .intro h2;replace h2:=CZ h2;have hpl:(pot.length:Int)=N:=by simpa using h2
   refine Ay (Aa (Ax (Ae (Ap U (Be Bf U (Af U (qA (A1 (Bw 17171480832 (α:=Nat) (fun i=>[(23,.int .i64 (i:Int))]) (fun i w'=>i<=pot.length/\Ctx w0 [] w' [(b6,Bl 4 [.bool false]),(b3,Bl 123 [.int .i64 N,.slice a es.length c])]/\∀(k:Nat) (x:Int),k<i->pot[k]?=some x->Pk x=true) (fun i=>pot.length - i) 0 U ?_ ?_ ?_)))))))))
   .exact⟨rfl,trivial⟩
   .exact⟨qaq _,H,fun k x h=>absurd h (qbd _)⟩
   .rintro i j w ⟨hi,H,hb⟩;refine Ae (Bm U U (qA (Ax (Aw _ U ?_ ?_))))
    .intro h3;replace h3:=AM h3;obtain⟨x,h7x⟩:=AE (l:=pot) (i:=i);refine Ay (Aa (Ax (A1 (Ae (Bg Rp Bf BD U U (by rfl) ?_)))));refine Bb B4 U (((Rp.ext0 H.ext).fld h7x U (j:=0) U)) ?_;refine Ad U (qA (Ae (Ci (α:=Unit) 8455716864 (fun _=>[(32,.bool (!Pk x))]) (fun _ w'=>Ctx w0 [] w' [(b6,Bl 4 [.bool false]),(b3,Bl 123 [.int .i64 N,.slice a es.length c])]) U ?_ ?_)))
     .refine Af U (Bm U U (A2 U (AR 29 U ?_ ?_)))
      .intro h1;replace h1:=AM h1;refine Ag U (Ag U (AA U (.bool _) U (Ab ?_)));exact⟨rfl,(),rfl,⟨qaa Value.bool (by unfold Pk;rw[qad];simp_all;try omega),trivial⟩,H⟩
      .intro h2;replace h2:=AN h2;refine Af U (C8 U U (AJ U (.bool _) U (Ab ?_)));exact⟨rfl,(),rfl,⟨qaa Value.bool (by unfold Pk;rw[qad];simp_all;try omega),trivial⟩,H⟩
     rintro - j32 w H;refine Aw _ U ?_ ?_
     .intro h4;replace h4:=BM h4;refine Ae (Cb (.bool _) Aac U U U H at0 (by decide) ?_);rintro w H;refine qA (A5 (AF (Av (Av (AF (Av (Lg U U ?_)))))));have h2':GL N pot=false:=by unfold GL;rw[ET h7x (by simpa using h4),qdv]
      exact⟨_,Gw LI (by rw[Aj (H.get at0)];rfl),qaa Value.bool (by unfold Ja;rw[h2',qdv,qc4]),H.ext⟩
     .intro h4;replace h4:=BN h4;refine Ay (A8 (Aa (A0 (Az U U ?_))));refine Af U (qA ?_);refine⟨i+1,rfl,⟨rfl,trivial⟩,⟨by omega,H,fun k y hk hy=>?_⟩,by omega⟩
      rcases qap k i with h7|h7
      .exact hb k y h7 hy
      .obtain rfl:k=i:=by omega
       rw[h7x]at hy;cases hy
       simpa using h4
    .intro h3;replace h3:=AN h3
     have hp:GL N pot=true:=by
      unfold GL;rw[Gc fun k x hk hx=>hb k x (by omega) hx,qan hpl];rfl
     obtain⟨hl,hri,-⟩:=C5 h1';obtain⟨hN1,hN40,hn200,-⟩:=CS hri;have hfN:Ja N es fl pot=(EU (Cs es) (flE fl) es.length).all (arcB (grE N es) (Fk pot)):=by unfold Ja;rw[h1',hp];rfl
     refine Bt (An (An (AK (Aa (Ax (Ae (Cg CE Ct U H at1 U (Ap U (Ap U ?_)))))))));have hlt:=H.lt (k:=0) rfl;have hlt1:=H.lt (k:=1) rfl;refine Al qB (YP N a b p es.length c fl.length d pot.length r _) U ?_;rintro v w ⟨x1,x2,x3,rfl,hb1,hb2,hb3,hs1,hs2,hs3,hx37⟩;have hbb:=(H.call hx37);have hx7:=H.ext.trans hx37;have hs07:=H.size;refine qA (A1 ?_);obtain⟨ws,rfl⟩:=qD w;have hk6:=hbb.lt (k:=0) rfl;have hk1:=Bd hb1;have hk2:=Bd hb2;have hk3:=Bd hb3;have hk66:=hbb.get at0;have hs0:=hbb.size;have h60:w0.heap.size<=b6:=(hbb.own _ (qak ..)).elim (fun h=>by cases h) id
     refine Pw (gf:=212) U qB (V1 (b1:=x1) (b2:=x2) (b3:=x3) (a:=a) (b:=b) (p:=p) (c:=c) (d:=d) (r:=r) h1' hp) (by kernel_rfl) (by kernel_rfl) (fun v hv=>by obtain⟨p,-,rfl⟩:=qah.1 hv;rfl)
      (fun i M w'=>(M=fun _=>False)/\Ext [] w0 w'/\w'.heap[b6]?=some (Bl 4 [.bool false])/\w'.heap[x1]?=some (Bl 123 [.int .i64 N,.slice a es.length c])/\w'.heap[x2]?=some (Bl 31 [.slice p pot.length r])/\w'.heap[x3]?=some (Bl 31 [.slice b fl.length d])/\∀(k:Nat) (y:Nat),k<i->(EU (Cs es) (flE fl) es.length)[k]?=some y->arcB (grE N es) (Fk pot) y=true)
      (fun w'=>Ext [] w0 w'/\w'.heap[b6]?=some (Bl 4 [.bool false])/\(EU (Cs es) (flE fl) es.length).all (arcB (grE N es) (Fk pot))=false) (by simp)
      (fun w2 hx2 _=>⟨_,rfl,hx7.trans hx2,hx2.to hk66 (by simp),hx2.to hb1 (by simp),hx2.to hb2 (by simp),hx2.to hb3 (by simp),fun k y h=>absurd h (qbd _)⟩)
      (fun i M w' w'' hJ hx=>⟨hJ.1,hJ.2.1.then hx (fun z hz => .inr (by simp only[qai,qau,or_false]at hz;omega)),hx.to hJ.2.2.1 (by simp;omega),hx.to hJ.2.2.2.1 (by simp;omega),hx.to hJ.2.2.2.2.1 (by simp;omega),hx.to hJ.2.2.2.2.2.1 (by simp;omega),hJ.2.2.2.2.2.2⟩)
      (fun w' w'' hE hx=>⟨hE.1.then hx (fun z hz => .inr (by simp only[qai,qau,or_false]at hz;omega)),hx.to hE.2.1 (by simp;omega),hE.2.2⟩)
      (fun i M w' hJ=>⟨fun y hy=>by rw[hJ.1]at hy;exact hy.elim,hJ.2.2.2.1,hJ.2.2.2.2.1,hJ.2.2.2.2.2.1,R.ext0 hJ.2.1,Rf.ext0 hJ.2.1,Rp.ext0 hJ.2.1⟩) ?_ ?_ ?_
     .rintro i v _ w hxv ⟨rfl,hx0,g6,g1,g2,g3,hall⟩ hsz;unfold LZ at hxv;rw[qa1]at hxv;obtain⟨y,hy,rfl⟩:=qdf.1 hxv;obtain⟨w1,rfl,H⟩:=qE w;refine A0 (Bc KW H ?_);rintro b9 w - H;refine Bn Iw U U U (by exact QA _ _ _) H at0 U ?_;rintro w H;refine Ab ?_;refine⟨H.ext,fun wB hxB=>?_⟩;have hb9:=(H.own _ (qak ..)).elim (fun h=>by cases h) id;have k9:=hxB.to (H.get at0) (by rw[qab];omega);have k6:=hxB.to (H.ext.to g6 (by simp)) (by rw[qab];omega);have k1:=hxB.to (H.ext.to g1 (by simp)) (by rw[qab];omega);have k2:=hxB.to (H.ext.to g2 (by simp)) (by rw[qab];omega);have k3:=hxB.to (H.ext.to g3 (by simp)) (by rw[qab];omega);have hx0B:=(hx0.trans H.ext).then hxB fun z hz => .inr (by rw[qab.1 hz];omega)
      obtain⟨w2,rfl⟩:=qD wB;replace H:=Ctx.start1 k6;have hn9:b9∉[b6]:=by rw[qab];omega
      refine A1 (Ae (Ah Qx U (Bb B4 U ((H.old (Aj k9 _) hn9)) ?_)));refine Bm U U (qA (Aw _ U ?_ ?_))
      .intro h5;replace h5:=AM h5;refine Ae (Cb (.bool _) Aac U U U H at0 (by decide) ?_);rintro w H;refine qA (A5 (AF ?_));exact⟨⟨hx0B.then H.ext fun z hz => .inr (by rw[qab.1 hz];exact h60),H.get at0,ET hy (qa2 (by omega))⟩,_,H.ext,by rw[qab];omega,by rw[qab];omega⟩
      .intro h5;replace h5:=AN h5;refine Ay (A8 ?_);refine⟨_,⟨rfl,hx0B,k6,k1,k2,k3,fun k z hk hz=>?_⟩,fun _ h=>h.elim,[],.refl _ _,fun _ h=>by cases h⟩
       rcases qap k i with h7|h7
       .exact hall k z h7 hz
       .obtain rfl:k=i:=by omega
        rw[hy]at hz;cases hz;exact qan (by omega)
     .rintro M w ⟨-,hx0,g6,-,-,-,hall⟩ hD;have hlen:(LZ (grE N es) (Fk pot) (EU (Cs es) (flE fl) es.length)).length=(EU (Cs es) (flE fl) es.length).length:=by unfold LZ;rw[qal]
      rw[hlen]at hall;replace H:=Ctx.start1 g6;refine A8 (Aa (Ae (Cb (.bool _) Aac U U U H at0 (by decide) ?_)));rintro w H;refine qA (A5 (Lg U U (Ij (by rw[H.ext.block _ (Bd hD) (by rw[qab];omega)];exact hD) U fun wF hxF=>?_)));exact⟨_,Gw LI (by rw[Aj (hxF.to (H.get at0) (by rw[qab];omega))];rfl),qaa Value.bool (by rw[hfN,Gc fun k x hk hx=>hall k x hk hx]),(hx0.then H.ext fun z hz => .inr (by rw[qab.1 hz];exact h60)).then hxF fun z hz => .inr (by rw[qab.1 hz];omega)⟩
     .rintro w ⟨hx0,g6,hall⟩ hD;refine AF (Av (Lg U U (Ij hD U fun wF hxF=>?_)));exact⟨_,Gw LI (by rw[Aj (hxF.to g6 (by rw[qab];omega))];rfl),qaa Value.bool (by rw[hfN,hall]),hx0.then hxF fun z hz => .inr (by rw[qab.1 hz];omega)⟩
def J0(A:List Ar)(v:Nat):Int:=((A.filter fun a=>decide (a.1=v)).length:Nat)
def gv(n:Nat)(D:Int)(s:Lb)(hp:List Tg)(v:Nat):Int:=if s.d v ≠ -1/\s.d v<=D then(hp.count (s.d v,v):Nat)+(s.h v:Nat)else(n:Nat)+1
def psi(n:Nat)(A:List Ar)(D:Int)(s:Lb)(hp:List Tg):Int:=(hp.length:Nat)+BJ (fun v=>J0 A v*gv n D s hp v) n
structure PI(n:Nat)(D:Int)(s:Lb)(hp:List Tg):Prop where
 keys:∀t∈hp,D<=t.1
 item:∀t∈hp,s.d t.2 ≠ -1/\s.d t.2<=t.1
 lab:∀v,s.d v ≠ -1->hp.count (s.d v,v)+s.h v<=n
theorem Ae9(A:List Ar)(v:Nat):0<=J0 A v:=by unfold J0;omega
theorem Ajv{n:Nat}{D:Int}{s:Lb}{hp hq:List Tg}(h:hp.Perm hq)(v:Nat):gv n D s hp v=gv n D s hq v:=by unfold gv;rw[h.count_eq]
theorem QB{n:Nat}{A:List Ar}{D:Int}{s:Lb}{hp hq:List Tg}(h:hp.Perm hq):psi n A D s hp=psi n A D s hq:=by
 unfold psi;rw[h.length_eq,C4 fun i _=>by rw[Ajv h]]
theorem PI.perm{n:Nat}{D:Int}{s:Lb}{hp hq:List Tg}(P:PI n D s hp)(h:hp.Perm hq):PI n D s hq :=
 ⟨fun t ht=>P.keys t (h.mem_iff.2 ht),fun t ht=>P.item t (h.mem_iff.2 ht),fun v hv=>by rw[<-h.count_eq];exact P.lab v hv⟩
theorem gv0{n:Nat}{D:Int}{s:Lb}{hp:List Tg}(v:Nat):0<=gv n D s hp v:=by unfold gv;split <;> omega
theorem Uf{n:Nat}{A:List Ar}{D:Int}{s:Lb}{hp:List Tg}:(hp.length:Int)<=psi n A D s hp:=by
 have:=Iy (f:=fun v=>J0 A v*gv n D s hp v) (k:=n) fun i _=>qds (Ae9 A i) (gv0 i);unfold psi;omega
theorem PI.pop{n:Nat}{A:List Ar}{D:Int}{s:Lb}{t:Tg}{hp:List Tg}(P:PI n D s (t::hp))(hmin:∀x∈hp,t.1<=x.1)(ht:t.2<n) :
  PI n t.1 s hp/\psi n A t.1 s hp+1<=psi n A D s (t::hp)/\(t.1=s.d t.2->psi n A t.1 s hp+1+J0 A t.2<=psi n A D s (t::hp)):=by
 have hD:=P.keys t (qak ..)
 have hc:∀v,((t::hp).count (s.d v,v):Int)=(hp.count (s.d v,v):Int)+one (t=(s.d v,v)):=fun v=>by
  rw[List.count_cons]
  by_cases e:t=(s.d v,v)
  .rw[if_pos (by rw[e];exact beq_self_eq_true _),one,if_pos e];omega
  .rw[if_neg (by simpa using e),one,if_neg e];omega
 have hone:∀v,0<=one (t=(s.d v,v)):=fun v=>by unfold one;split <;> omega
 have hg:∀v,gv n t.1 s hp v<=gv n D s (t::hp) v/\(t=(s.d v,v)->gv n t.1 s hp v+1<=gv n D s (t::hp) v):=fun v=>by
  have h1:=hc v;have h2:=hone v;have h4:t=(s.d v,v)->one (t=(s.d v,v))=1:=fun e=>if_pos e
  have h5:t=(s.d v,v)->t.1=s.d v/\s.d v ≠ -1:=fun e=>⟨by rw[e],by
   have:=(P.item t (qak ..)).1;rw[show t.2=v by rw[e]]at this
   exact this⟩
  unfold gv
  by_cases a1:s.d v ≠ -1/\s.d v<=t.1
  .have h3:=P.lab v a1.1;rw[if_pos a1]
   by_cases a2:s.d v ≠ -1/\s.d v<=D
   .rw[if_pos a2];refine⟨by omega,fun e=>?_⟩;have:=h4 e;omega
   .rw[if_neg a2];refine⟨by omega,fun e=>?_⟩;have:=h4 e;omega
  .rw[if_neg a1,if_neg (fun h=>a1 ⟨h.1,by omega⟩)];refine⟨qa3 _,fun e=>?_⟩;have:=h5 e;exact absurd ⟨this.2,by omega⟩ a1
 refine⟨⟨hmin,fun x hx=>P.item x (qaj _ hx),fun v hv=>?_⟩,?_,fun e=>?_⟩
 .have h1:=hc v;have h2:=hone v;have h3:=P.lab v hv;omega
 .have h1:=KY (f:=fun v=>J0 A v*gv n t.1 s hp v) (g:=fun v=>J0 A v*gv n D s (t::hp) v) (k:=n) fun i _=>qdr (hg i).1 (Ae9 A i);unfold psi;rw[qa9];omega
 .have h1:=KY (f:=fun v=>J0 A v*gv n t.1 s hp v) (g:=fun v=>J0 A v*gv n D s (t::hp) v - one (t.2=v)*J0 A v) (k:=n) fun i _=>by
   by_cases e1:t.2=i
   .subst e1;have h2:=qdr ((hg t.2).2 (Prod.ext e rfl)) (Ae9 A t.2);rw[Int.mul_add]at h2;rw[one,if_pos rfl];omega
   .have h2:=qdr (hg i).1 (Ae9 A i);rw[one,if_neg e1];omega
  rw[LA,Ia (fun v=>J0 A v) ht]at h1;unfold psi;rw[qa9];omega
theorem PI.relax{n:Nat}{A:List Ar}{D:Int}{s:Lb}{hp:List Tg}{a:Ar}(P:PI n D s hp)(hs:s.d a.1=D)(hD0:0<=D)(hl:0<=a.2.2)(hlow:∀v,s.d v = -1\/0<=s.d v)(hhop:(Ht s a).d a.2.1 ≠ -1->(Ht s a).h a.2.1+1<=n) :
  PI n D (Ht s a) (Jj s a hp)/\psi n A D (Ht s a) (Jj s a hp)<=psi n A D s hp+1:=by
 by_cases hb:Ez s a.2.1 (s.d a.1+a.2.2) (s.h a.1+1)
 .have hS:Ht s a=I0 s a.2.1 (s.d a.1+a.2.2) (s.h a.1+1):=by unfold Ht;rw[if_pos hb]
  have hH:Jj s a hp=(s.d a.1+a.2.2,a.2.1)::hp:=by unfold Jj;rw[if_pos hb]
  rw[hS]at hhop;rw[hS,hH];obtain⟨d',hd'⟩:∃d',d'=s.d a.1+a.2.2:=⟨_,rfl⟩;obtain⟨h',hh'⟩:∃h',h'=s.h a.1+1:=⟨_,rfl⟩;obtain⟨v,hv⟩:=qD a.2.1;rw[<-hd',<-hh',<-hv]at hb hhop |-;have hdD:D<=d':=by omega
  have p1:(I0 s v d' h').d v=d':=if_pos rfl;have p2:(I0 s v d' h').h v=h':=if_pos rfl;have p3:∀x,x≠v->(I0 s v d' h').d x=s.d x:=fun x hx=>if_neg hx;have p4:∀x,x≠v->(I0 s v d' h').h x=s.h x:=fun x hx=>if_neg hx;have hsD:=hlow a.1;unfold Ez at hb
  have hc1:∀x,x≠v->((d',v)::hp).count (s.d x,x)=hp.count (s.d x,x):=fun x hx=>by
   rw[List.count_cons,if_neg (by simp;intro _ h;exact hx h.symm)];rfl
  have hc2:((d',v)::hp).count (d',v)=hp.count (d',v)+1:=by rw[List.count_cons_self]
  have hc3:s.d v = -1\/d'<s.d v->hp.count (d',v)=0:=fun h=>List.count_eq_zero.2 fun hm=>by
   have:=P.item _ hm;dsimp only at this;omega
  have h0:d' ≠ -1:=by omega
  have hh1:=hhop (by rw[p1];exact h0);rw[p2]at hh1
  have hlabv:((d',v)::hp).count (d',v)+h'<=n:=by
   rw[hc2]
   rcases hb with h|h|⟨h,hlt⟩
   .rw[hc3 (.inl h)];omega
   .rw[hc3 (.inr h)];omega
   .have:=P.lab v (by rw[<-h];exact h0);rw[<-h]at this;omega
  have hgx:∀x,gv n D (I0 s v d' h') ((d',v)::hp) x<=gv n D s hp x:=fun x=>by
   unfold gv
   by_cases e:x=v
   .subst e;rw[p1,p2]
    by_cases a1:d' ≠ -1/\d'<=D
    .rw[if_pos a1]
     by_cases a2:s.d x ≠ -1/\s.d x<=D
     .rw[if_pos a2];have e3:d'=s.d x/\h'<s.h x:=by omega
      rw[hc2,<-e3.1];omega
     .rw[if_neg a2];omega
    .rw[if_neg a1];rw[if_neg (fun h=>a1 ⟨h0,by omega⟩)];exact qa3 _
   .rw[p3 x e,p4 x e,hc1 x e];exact qa3 _
  refine⟨⟨fun t ht=>?_,fun t ht=>?_,fun x hx=>?_⟩,?_⟩
  .rcases qai.1 ht with rfl|ht
   .exact hdD
   .exact P.keys t ht
  .rcases qai.1 ht with rfl|ht
   .rw[p1];exact⟨h0,qa3 _⟩
   .obtain⟨i1,i2⟩:=P.item t ht
    by_cases e:t.2=v
    .rw[e,p1];rw[e]at i1 i2;exact⟨h0,by omega⟩
    .rw[p3 _ e];exact⟨i1,i2⟩
  .by_cases e:x=v
   .subst e;rw[p1,p2];exact hlabv
   .rw[p3 x e,p4 x e,hc1 x e];rw[p3 x e]at hx;exact P.lab x hx
  .have h1:=KY (f:=fun x=>J0 A x*gv n D (I0 s v d' h') ((d',v)::hp) x) (g:=fun x=>J0 A x*gv n D s hp x) (k:=n) fun i _=>qdr (hgx i) (Ae9 A i);unfold psi;rw[qa9];omega
 .have hS:Ht s a=s:=by unfold Ht;rw[if_neg hb]
  have hH:Jj s a hp=hp:=by unfold Jj;rw[if_neg hb]
  rw[hS,hH];exact⟨P,by omega⟩
abbrev FB(oo od oh ob n:Nat):List Value:=[.slice (some ⟨oo,0,none⟩) n n,.slice (some ⟨od,0,none⟩) n n,.slice (some ⟨oh,0,none⟩) n n,.slice (some ⟨ob,0,none⟩) n n]
def RK(s:Lb)(v:Nat):Int:=(s.h v:Nat)
def JV(g:Gr)(p:Nat->Int)(a:Nat):Ar:=(g.u a,g.v a,g.len p a)
theorem Aaj{w:World}{bf oo od oh ob n:Nat}{s:Lb}(hf:w.heap[bf]?=some (Bl 265 (FB oo od oh ob n)))(hd:w.heap[od]?=some (Bl 2 (BZ s.d n)))(hh:w.heap[oh]?=some (Bl 3 (BZ (RK s) n)))(v:Nat)(hv:v<n)(_:n<=1000000)(d:Int)(h:Nat) :
  Ret prog 216 #[ptr bf,.int .i64 (v:Int),.int .i64 d,.int .i64 (h:Int)] w fun r w'=>r=.bool (decide (Ez s v d h))/\w=w':=by
 obtain⟨w0,rfl⟩:=qD w;have Rdd:=CB hd;have Rhh:=CB hh;have hhv:RK s v=(s.h v:Nat):=rfl;obtain⟨x,hx⟩:=qD (s.d v);obtain⟨y,hy⟩:=qD (s.h v);have hgd:(tab s.d n)[v]?=some x:=by rw[BW hv,hx]
 have hgh:(tab (RK s) n)[v]?=some (y:Int):=by rw[BW hv,hhv,hy]
 have hiff:Ez s v d h↔(x = -1\/d<x\/(d=x/\h<y)):=by rw[hx,hy];exact Iff.rfl
 rw[show decide (Ez s v d h)=decide (x = -1\/d<x\/(d=x/\h<y))from decide_eq_decide.2 hiff];clear hiff;refine Au (fn:=f216) func216 U [.pointer (some ⟨bf,0,none⟩),.int .i64 (v:Int),.int .i64 d,.int .i64 (h:Int)] U ?_;refine Ae (Ai U (qA (Ae (A4 U (A9 U (Ah EG U (Bb BU U ((by rw[Aj hf];rfl)) ?_)))))));refine Af U (Bp Bf BD U U ?_);refine Bb B4 U ((Rdd.fld hgd U (j:=0) U)) (C3 U U (A2 U (AR 17 U ?_ ?_)))
 .intro h1;replace h1:=AM h1;refine Ag U (Ag U (Ag U (Ag U (Ag U (Ag U (Ag U (Ag U (Ag U (AA U (.bool _) U ?_)))))))));refine A2 U (Ag U (Ag U (Ag U (Ag U (Ag U (Ag U (Ag U (Ag U (Ag U ?_)))))))));refine Ag U (Ag U (Ag U (Ag U (Ag U (Ag U (Ag U (Ag U (Ag U (Ag U ?_)))))))));refine Ag U (AA U (.bool _) U (Ai U (qA (A5 (AB (v:=(.bool _)) U U U ?_)))));exact⟨qaa Value.bool (by clear hgd hgh hx hy;rw[qad];simp_all;try omega),rfl⟩
 .intro h2;replace h2:=AN h2;refine Af U (A4 U (A9 U (Ah EG U (Bb BU U ((by rw[Aj hf];rfl)) ?_))));refine Af U (Bp Bf BD U U ?_);refine Bb B4 U ((Rdd.fld hgd U (j:=0) U)) ?_;refine Bm U U (AJ U (.bool _) U (A2 U (AR 28 U ?_ ?_)))
  .intro h3;replace h3:=AM h3;refine Ag U (Ag U (Ag U (Ag U (Ag U (Ag U (Ag U (Ag U (Ag U (Ag U ?_)))))))));refine Ag U (Ag U (Ag U (Ag U (Ag U (Ag U (Ag U (Ag U (Ag U (Ag U ?_)))))))));refine AA U (.bool _) U (Ai U (qA (A5 (AB (v:=(.bool _)) U U U ?_))));exact⟨qaa Value.bool (by clear hgd hgh hx hy;rw[qad];simp_all;try omega),rfl⟩
  .intro h4;replace h4:=AN h4;refine Af U (A4 U (A9 U (Ah EG U (Bb BU U ((by rw[Aj hf];rfl)) ?_))));refine Af U (Bp Bf BD U U ?_);refine Bb B4 U ((Rdd.fld hgd U (j:=0) U)) ?_;refine C3 U U (A2 U (AR 38 U ?_ ?_))
   .intro h5;replace h5:=AM h5;refine Af U (A4 U (A9 U (Ah Iv U (Bb GA U ((by rw[Aj hf];rfl)) ?_))));refine Af U (Bp E5 Gb U U ?_);refine Bb Cc U ((Rhh.fld hgh U (j:=0) U)) (Bm U U (AA U (.bool _) U (AJ U (.bool _) U (Ai U (qA (A5 (AB (v:=(.bool _)) U U U ?_)))))));exact⟨qaa Value.bool (by clear hgd hgh hx hy;rw[qad];simp_all;try omega),rfl⟩
   .intro h6;replace h6:=AN h6;refine Ag U (Ag U (Ag U (Ag U (Ag U (Ag U (Ag U (Ag U (Ag U (AJ U (.bool _) U ?_)))))))));refine AJ U (.bool _) U (Ai U (qA (A5 (AB (v:=(.bool _)) U U U ?_))));exact⟨qaa Value.bool (by clear hgd hgh hx hy;rw[qad];simp_all;try omega),rfl⟩
def JW(x:Lb × List Tg)(a:Ar):Lb × List Tg:=(Ht x.1 a,Jj x.1 a x.2)
def goP(g:Gr)(p:Nat->Int)(s:Lb)(hp:List Tg)(l:List Nat):Lb × List Tg:=(l.map (JV g p)).foldl JW (s,hp)
theorem Afa(g:Gr)(p:Nat->Int)(s:Lb)(hp:List Tg){l:List Nat}{i a:Nat}(h:l[i]?=some a):goP g p s hp (l.take (i+1))=JW (goP g p s hp (l.take i)) (JV g p a):=by
 unfold goP;rw[Ee h,qav,qdy];rfl
abbrev GB(od oh n:Nat)(s:Lb)(bh:Nat)(a:Option Addr)(hn c:Nat)(full:List Value):List (Nat × Obj):=(od,Bl 2 (BZ s.d n))::(oh,Bl 3 (BZ (RK s) n))::HB bh a hn c full
structure GSt where
 i:Nat
 a:Option Addr
 hn:Nat
 c:Nat
 full:List Value
 L:List Tg
theorem Ajw{w:World}{bf oo od oh ob n:Nat}{s:Lb}{g:Gr}{p:Nat->Int}{bh:Nat}{a:Option Addr}{hn c:Nat}{full:List Value}{L:List Tg}{La:List Nat}{au:Option Addr}{cu u:Nat}{outs:List Value}(H0:Ctx w ((GB od oh n s bh a hn c full).map (·.1)) w (GB od oh n s bh a hn c full))(O:OS a hn c 2 full (L.flatMap Fj))(hH:HeapL L)(hf:w.heap[bf]?=some (Bl 265 (FB oo od oh ob n)))(hfn:bf∉(GB od oh n s bh a hn c full).map (·.1))(ho:w.heap[oo]?=some (Bl 271 outs))(hon:oo∉(GB od oh n s bh a hn c full).map (·.1))(hou:outs[u]?=some (.slice au La.length cu))(hun:u<n)(R:Rd w au 4 (Hv g p) La)(hRn:La≠[]->(adr au).block∉(GB od oh n s bh a hn c full).map (·.1))(hLa:∀x∈La,g.u x=u/\g.v x<n /\ -1152921504606846976<=g.len p x/\g.len p x<=1152921504606846976)(hhn:hn+La.length<=100000000)(hbd:∀k x,k<=La.length -> -1<=(goP g p s L (La.take k)).1.d x/\(goP g p s L (La.take k)).1.d x<=1152921504606846976/\(goP g p s L (La.take k)).1.h x<=1000000)(hn6:n<=1000000:=by omega):
  Ret prog 198 #[ptr bf,ptr bh,.int .i64 (u:Int)] w fun v w'=>v=.tuple #[]/\∃(a':Option Addr) (hn' c':Nat) (full':List Value) (L':List Tg),L'.Perm (goP g p s L La).2/\HeapL L'/\OS a' hn' c' 2 full' (L'.flatMap Fj)/\Ctx w ((GB od oh n s bh a hn c full).map (·.1)) w' (GB od oh n (goP g p s L La).1 bh a' hn' c' full'):=by
 obtain⟨w0,rfl⟩:=qD w;obtain⟨ids,hids⟩:=qD ((GB od oh n s bh a hn c full).map (·.1));rw[<-hids]at H0 hfn hon hRn |-;have H:=H0;refine Au (fn:=f198) func198 U [.pointer (some ⟨bf,0,none⟩),.pointer (some ⟨bh,0,none⟩),.int .i64 (u:Int)] U ?_;refine Ae (A4 U (A9 U (Ah MR U (Bb TI U ((by rw[Aj hf];rfl)) ?_))));refine Af U (Bp NL NN U U ?_);refine Bb Xg U ((by rw[Aj ho];simpa using hou)) ?_;refine Be Mo U (Af U (qA (A1 (Bw 9444732965739290296704 (α:=GSt) (fun t=>[(17,.int .i64 (t.i:Int))]) (fun t w'=>t.i<=La.length/\t.L.Perm (goP g p s L (La.take t.i)).2/\HeapL t.L/\t.hn<=hn+t.i/\OS t.a t.hn t.c 2 t.full (t.L.flatMap Fj)/\Ctx w0 ids w' (GB od oh n (goP g p s L (La.take t.i)).1 bh t.a t.hn t.c t.full)) (fun t=>La.length - t.i) ⟨0,a,hn,c,full,L⟩ U ?_ ?_ ?_))))
 .exact⟨rfl,trivial⟩
 .exact⟨qaq _,.refl _,hH,qam _,O,H⟩
 .rintro⟨i,a,hk,c,full,L'⟩ j w ⟨hi,hp,hH,hkn,O,H⟩;dsimp only at hi hp hH hkn O H;dsimp only;obtain⟨si,hsi⟩:=qD ((goP g p s L (La.take i)).1);obtain⟨hi2,hhi2⟩:=qD ((goP g p s L (La.take i)).2);have hgi:goP g p s L (La.take i)=(si,hi2):=by rw[hsi,hhi2]
  rw[<-hsi]at H;rw[<-hhi2]at hp;refine Ae (Bm U U (qA (Ax (Aw _ U ?_ ?_))))
  .intro h1;replace h1:=AM h1;obtain⟨x,hxa⟩:=AE (l:=La) (i:=i);obtain⟨hxu,hxv,hl1,hl2⟩:=hLa x (qac hxa);have hsn:=Afa g p s L hxa;rw[hgi]at hsn;have hbu:=hbd i u hi;have hbv:=hbd i (g.v x) hi;rw[hgi]at hbu hbv;dsimp only at hbu hbv;obtain⟨v,hv⟩:=qD (g.v x);obtain⟨ln,hln⟩:=qD (g.len p x);have hrow:Hv g p x=[.int .i64 (x:Int),.int .i64 (u:Int),.int .i64 (v:Int),.int .i64 ln]:=by unfold Hv;rw[hxu,hv,hln]
   rw[<-hv]at hxv hbv;rw[<-hln]at hl1 hl2;have hne:La≠[]:=fun h=>by rw[h]at hxa;cases hxa
   refine Ay (Aa (Ax (A1 (Ae (Bg R Mo Iw U U (by rfl) ?_)))));refine C9 _ Xf Iw U U (Rd.rowE (R.ext H.ext (hRn hne)) hxa hrow U) (Bc KW H ?_);rintro b7 w - H;refine Bn Iw U U U (by simp[AY]) H at0 U ?_;rintro w H;refine qA ?_;have K0:∀{z},Ext ids w0 z->z.heap[bf]?=some (Bl 265 (FB oo od oh ob n)):=fun hz=>hz.to hf hfn;obtain⟨du,hdu⟩:=qD (si.d u);obtain⟨hu,hhu⟩:=qD (si.h u);have hgd:(tab si.d n)[u]?=some du:=by rw[BW hun,hdu]
   have hgh:(tab (RK si) n)[u]?=some (hu:Int):=by rw[BW hun,hhu];rfl
   have har:JV g p x=(u,v,ln):=by unfold JV;rw[hxu,<-hv,<-hln]
   rw[<-hdu,<-hhu]at hbu;have RD:=CB (H.drew.get at1);refine DT (fun x=>x=_) Br U ?_;refine BE U (AZ U (A6 EG U (BX BU U (by rintro _ rfl;exact((by rw[Aj (K0 H.drew.ext)];rfl))) ?_)));refine AX U (Bi Bf BD U U ?_);refine BX B4 U (by rintro _ rfl;exact((RD.fld hgd rfl (j:=0) rfl))) ?_;refine A6 Qx U (Cj B4 U (by rintro _ rfl;exact H.drew) at0 U ?_);refine D4 U U (Dv U (BS ?_));rintro _ rfl;replace H:=H.drew;have RH:=CB (H.drew.get at2);refine Ej 12 Br U U (BE U (A6 Ga U (Cj Cc U (by rintro _ rfl;exact H.drew) at0 U ?_)));refine AX U (BE U (AZ U (A6 Iv U (BX GA U (by rintro _ rfl;exact((by rw[Aj (K0 H.drew.ext)];rfl))) ?_))));refine AX U (Bi E5 Gb U U ?_)
   refine BX Cc U (by rintro _ rfl;exact((RH.fld hgh rfl (j:=0) rfl))) ?_;refine D4 U U ?_;rw[show(hu:Int)+1=((hu+1:Nat):Int)by omega];refine BS ?_;replace H:=H.drew;refine Al qB (Aaj (K0 H.ext) (H.get at1) (H.get at2) v hxv hn6 (du+ln) (hu+1)) U ?_;rintro rv w ⟨rfl,rfl⟩;refine qA (Aw _ U ?_ ?_)
   .intro h2;have h2':Ez si v (du+ln) (hu+1):=by simpa using h2
    have hS:Ht si (JV g p x)=I0 si v (du+ln) (hu+1):=by rw[har];unfold Ht;dsimp only;rw[<-hdu,<-hhu,if_pos h2']
    have hHH:Jj si (JV g p x) hi2=(du+ln,v)::hi2:=by rw[har];unfold Jj;dsimp only;rw[<-hdu,<-hhu,if_pos h2']
    refine Ck [([0,1,2,3,4,5,6,7,8,9,10,11,12,13,14,15,16,17,18,19,20,21],22),([23],24)] (fun z=>z.heap[bf]?=some (Bl 265 (FB oo od oh ob n))/\z.heap[b7]?=some (Bl 270 [.int .i64 (x:Int),.int .i64 (u:Int),.int .i64 (v:Int),.int .i64 ln])/\z.heap[oh]?=some (Bl 3 (BZ (RK si) n))) [24] Br (⟨K0 H.drew.ext,H.drew.get at0,H.drew.get at2⟩) ?_;refine AD U U (BG U (Ba U (Ao EG U (B0 BU U (fun _ hx=>(by rw[Aj hx.1];rfl)) ?_))));refine Ao Ga U (B0 Cc U (fun _ hx=>(by rw[Aj hx.2.1];rfl)) ?_);refine BG U (Ba U (Ao Iv U (B0 GA U (fun _ hx=>(by rw[Aj hx.1];rfl)) ?_)));refine Ao Ga U (B0 Cc U (fun _ hx=>(by rw[Aj hx.2.1];rfl)) ?_);refine Bj U (BG U (Ba U (Ao Iv U (B0 GA U (fun _ hx=>(by rw[Aj hx.1];rfl)) ?_))));refine Bj U (AP E5 Gb U U ?_)
    refine B0 Cc U (fun _ hx=>((CB hx.2.2).fld hgh rfl (j:=0) rfl)) (EB U U ?_);rw[show(hu:Int)+1=((hu+1:Nat):Int)by omega];refine AP Bf BD U U (AU ?_);replace H:=H.drew;refine Cl v (fun q => .int .i64 ((I0 si v (du+ln) (hu+1)).d q)) (.int _ _) BD U U U H at1 (by simp) (by show Value.int _ (if v=v then _ else _)=_;rw[if_pos rfl]) (fun q _ hq=>by show Value.int _ (if q=v then _ else _)=_;rw[if_neg hq]) ?_;rintro w H;refine Ab (BH (⟨K0 H.ext,H.get at0,H.get at2⟩) (AD U U ?_));refine AP E5 Gb U U ?_
    refine AU (Cl v (fun q => .int .i64 (RK (I0 si v (du+ln) (hu+1)) q)) (.int _ _) Gb U U U H at2 (by simp) (by show Value.int _ (((if v=v then _ else _:Nat)):Int)=_;rw[if_pos rfl]) (fun q _ hq=>by show Value.int _ (((if q=v then _ else _:Nat)):Int)=_;rw[if_neg hq];rfl) ?_);rintro w H;refine Ab (Bz U (BF (A0 (A4 U (Af U (Ah Ga U (AG Cc U H at0 U ?_)))))));have Hc:=Ctx.comm (L:=[_,_,_]) (L':=HB bh a hk c full) H;refine Al qB (YN (Ctx.lend (L1:=HB bh a hk c full) (L2:=[_,_,_]) Hc) O hH (du+ln) v) U ?_;rintro rv w ⟨rfl,a',c',f',L2,hp2,hH2,O2,H2⟩;replace H:=Ctx.comm (L:=HB bh a' (hk+1) c' f') (L':=[_,_,_]) (Ctx.back (L1:=HB bh a hk c full) (L2:=[_,_,_]) Hc H2);refine Ab (A8 (Aa (A0 (Az U U ?_))));refine Af U (qA ?_)
    refine⟨⟨i+1,a',hk+1,c',f',L2⟩,rfl,⟨rfl,trivial⟩,⟨by dsimp only;omega,?_,hH2,by dsimp only;omega,O2,?_⟩,by dsimp only;omega⟩
    .dsimp only;rw[hsn];show L2.Perm (Jj si (JV g p x) hi2);rw[hHH];exact hp2.trans (hp.cons _)
    .dsimp only;rw[hsn];show Ctx w0 ids w (GB od oh n (Ht si (JV g p x)) bh a' (hk+1) c' f');rw[hS];exact H.tail
   .intro h2;have h2':¬Ez si v (du+ln) (hu+1):=by simpa using h2
    have hS:Ht si (JV g p x)=si:=by rw[har];unfold Ht;dsimp only;rw[<-hdu,<-hhu,if_neg h2']
    have hHH:Jj si (JV g p x) hi2=hi2:=by rw[har];unfold Jj;dsimp only;rw[<-hdu,<-hhu,if_neg h2']
    refine Ay (A8 (Aa (A0 (Az U U ?_))));refine Af U (qA ?_);refine⟨⟨i+1,a,hk,c,full,L'⟩,rfl,⟨rfl,trivial⟩,⟨by dsimp only;omega,?_,hH,by dsimp only;omega,O,?_⟩,by dsimp only;omega⟩
    .dsimp only;rw[hsn];show L'.Perm (Jj si (JV g p x) hi2);rw[hHH];exact hp
    .dsimp only;rw[hsn];show Ctx w0 ids _ (GB od oh n (Ht si (JV g p x)) bh a hk c full);rw[hS];exact H.tail
  .intro h1;replace h1:=AN h1;refine Bt (An (An (AK (CV U U ?_))));obtain rfl:i=La.length:=by omega
   rw[qbm]at hsi hhi2;rw[hsi]at H;rw[hhi2]at hp;exact⟨rfl,a,hk,c,full,L',hp,hH,O,H⟩
abbrev NBl(od n:Nat)(s:Lb)(bh:Nat)(a:Option Addr)(hn c:Nat)(full:List Value):List (Nat × Obj):=(od,Bl 2 (BZ s.d n))::HB bh a hn c full
def JX(src:List Nat):List Tg:=src.map fun v=>(0,v)
theorem V2{src:List Nat}{i v:Nat}(h:src[i]?=some v)(x:Nat):(lb0 (src.take (i+1))).d x=if x=v then 0 else(lb0 (src.take i)).d x:=by
 unfold lb0;dsimp only;rw[Ee h]
 by_cases e:x=v
 .subst e;simp
 .simp[e]
theorem Afb{w:World}{bf oo od oh ob n:Nat}{bh:Nat}{c:Nat}{src:List Nat}{fr:Option Addr}{fc:Nat}(H0:Ctx w ((NBl od n (lb0 []) bh none 0 c []).map (·.1)) w (NBl od n (lb0 []) bh none 0 c []))(O:OS none 0 c 2 [] (([]:List Tg).flatMap Fj))(hf:w.heap[bf]?=some (Bl 265 (FB oo od oh ob n)))(hfn:bf∉(NBl od n (lb0 []) bh none 0 c []).map (·.1))(R:Rd w fr 1 I1 (src.map fun v:Nat=>(v:Int)))(hRn:src≠[]->(adr fr).block∉(NBl od n (lb0 []) bh none 0 c []).map (·.1))(hsrc:∀v∈src,v<n)(hnd:src.Nodup)(_:n<=1000000:=by omega)(hsl:src.length<=1000000:=by omega):
  Ret prog 195 #[ptr bf,ptr bh,.slice fr src.length fc] w fun v w'=>v=.bool (decide (0<src.length))/\∃(a':Option Addr) (c':Nat) (full':List Value) (L':List Tg),L'.Perm (JX src)/\HeapL L'/\OS a' src.length c' 2 full' (L'.flatMap Fj)/\Ctx w ((NBl od n (lb0 []) bh none 0 c []).map (·.1)) w' (NBl od n (lb0 src) bh a' src.length c' full'):=by
 obtain⟨w0,rfl⟩:=qD w;obtain⟨ids,hids⟩:=qD ((NBl od n (lb0 []) bh none 0 c []).map (·.1));rw[<-hids]at H0 hfn hRn |-;have H:=H0;refine Au (fn:=f195) func195 U [.pointer (some ⟨bf,0,none⟩),.pointer (some ⟨bh,0,none⟩),.slice fr src.length fc] U ?_;refine Ae (Ai U (qA (Ax (Ae (Ap U (Be E5 U (Af U (qA (A1 ?_)))))))));refine Bw 17592186042688 (α:=Option Addr × Nat × List Value × List Tg × Nat) (fun t=>[(11,.int .i64 (t.2.2.2.2:Int))]) (fun t w'=>t.2.2.2.2<=src.length/\t.2.2.2.1.Perm (JX (src.take t.2.2.2.2))/\HeapL t.2.2.2.1/\OS t.1 t.2.2.2.2 t.2.1 2 t.2.2.1 (t.2.2.2.1.flatMap Fj)/\Ctx w0 ids w' (NBl od n (lb0 (src.take t.2.2.2.2)) bh t.1 t.2.2.2.2 t.2.1 t.2.2.1)) (fun t=>src.length - t.2.2.2.2) (none,c,[],[],0) U ?_ ?_ ?_
 .exact⟨rfl,trivial⟩
 .exact⟨qaq _,.refl _,fun i x y _ h=>(by cases h),O,H⟩
 .rintro⟨a,c,full,L,i⟩ j w ⟨hi,hp,hH,O,H⟩;dsimp only at hi hp hH O H;dsimp only;refine Ae (Bm U U (qA (Ax (Aw _ U ?_ ?_))))
  .intro h1;replace h1:=AM h1;obtain⟨v,hv⟩:=AE (l:=src) (i:=i);have hvn:=hsrc v (qac hv);have hvm:(src.map fun v:Nat=>(v:Int))[i]?=some (v:Int):=by rw[qa1,hv];rfl
   have hne:src≠[]:=fun h=>by rw[h]at hv;cases hv
   have hnot:v∉src.take i:=fun hm=>by
    obtain⟨k,hk⟩:=qdd hm;rw[qb5]at hk
    split at hk
    .have hkl:=CD hk;obtain⟨h1,h2⟩:=qa8.1 hk;obtain⟨h3,h4⟩:=qa8.1 hv;have:=(List.getElem_inj hnd).1 (h2.trans h4.symm);omega
    .cases hk
   have hdv:(lb0 (src.take i)).d v = -1:=if_neg hnot;have hlm:(src.map fun v:Nat=>(v:Int)).length=src.length:=by rw[qal]
   have hgd:(tab (lb0 (src.take i)).d n)[v]?=some (-1):=by rw[BW hvn,hdv]
   refine Ay (Aa (Ax (A1 (Ae (Bg R E5 Gb U U (by omega) ?_)))));refine Bb Cc U (((R.ext H.ext (hRn hne)).fld hvm U (j:=0) U)) (Ad U (qA (Ax (Ae (Af U (Bm U U (A2 U (AR 17 U ?_ ?_))))))))
   .intro h2;replace h2:=AM h2;omega
   .intro h2;replace h2:=AN h2;refine Af U (A4 U (A9 U (Ah EG U (Bb BU U ((by rw[Aj (H.ext.to hf hfn)];rfl)) ?_))));refine Be Bf U (CM U U (AJ U (.bool _) U (qA (Aw _ U ?_ ?_))))
    .intro h3;replace h3:=AM h3;omega
    .intro h3;replace h3:=AN h3;refine Ay (Aa (Ae (A4 U (A9 U (Ah EG U (Bb BU U ((by rw[Aj (H.ext.to hf hfn)];rfl)) ?_))))));refine Af U (Bp Bf BD U U ?_);refine Bb B4 U (((CB (H.get at0)).fld hgd U (j:=0) U)) ?_;refine CK U U (qA (Aw _ U ?_ ?_))
     .intro h4;replace h4:=CY h4;refine Ae (A4 U (A9 U (Ah EG U (Bb BU U ((by rw[Aj (H.ext.to hf hfn)];rfl)) ?_))));refine Af U (Bp Bf BD U U ?_);refine Cl v (fun q => .int .i64 ((lb0 (src.take (i+1))).d q)) (.int _ _) BD U U U H at0 (by simp) (by rw[V2 hv,if_pos rfl]) (fun q _ hq=>by rw[V2 hv,if_neg hq]) ?_;rintro w H;refine qA (A0 (A4 U (Af U ?_)));have Hc:=Ctx.comm (L:=[_]) (L':=HB bh a i c full) H;refine Al qB (YN (Ctx.lend (L1:=HB bh a i c full) (L2:=[_]) Hc) O hH 0 v) U ?_;rintro rv w ⟨rfl,a',c',f',L2,hp2,hH2,O2,H2⟩;replace H:=Ctx.comm (L:=HB bh a' (i+1) c' f') (L':=[_]) (Ctx.back (L1:=HB bh a i c full) (L2:=[_]) Hc H2);refine Ab (A8 (Aa (A0 (Az U U ?_))));refine Af U (qA ?_);refine⟨(a',c',f',L2,i+1),rfl,⟨rfl,trivial⟩,⟨by dsimp only;omega,?_,hH2,O2,H⟩,by dsimp only;omega⟩
      dsimp only;unfold JX at hp |-;rw[Ee hv,qav];exact hp2.trans ((hp.cons _).trans (qex _ _).symm)
     .intro h4;replace h4:=CZ h4;omega
  .intro h1;replace h1:=AN h1;refine Bt (An (An (AK (Aa (Ae (Ap U (Be E5 U (C8 U U (Ai U (qA (A5 (AB (v:=(.bool _)) U U U ?_))))))))))));obtain rfl:i=src.length:=by omega
   rw[qbm]at hp H;exact⟨qaa Value.bool (by rw[qad];simp),a,c,full,L,hp,hH,O,H⟩
def J2(g:Gr)(p:Nat->Int)(s:Lb)(a:Nat):Prop:=s.d (g.u a) ≠ -1/\s.h (g.v a)≠0/\s.d (g.u a)+g.len p a=s.d (g.v a)/\s.h (g.u a)+1=s.h (g.v a)
structure BI(g:Gr)(p:Nat->Int)(s:Lb)(all done:Nat->Prop)(by':Nat->Int):Prop where
 val:∀v,by' v = -1\/∃a:Nat,by' v=(a:Int)/\all a/\J2 g p s a/\g.v a=v
 in':∀a,done a->J2 g p s a->by' (g.v a) ≠ -1
 fst:∀v (a:Nat),by' v=(a:Int)->∀x,done x->J2 g p s x->g.v x=v->a<=x
theorem BI.skip{g:Gr}{p:Nat->Int}{s:Lb}{all done:Nat->Prop}{by':Nat->Int}(B:BI g p s all done by'){a:Nat}(h:¬J2 g p s a\/(by' (g.v a) ≠ -1/\by' (g.v a)<=(a:Int))):BI g p s all (fun x=>x=a\/done x) by' :=
 ⟨B.val,fun x hx hg=>by
  rcases hx with rfl|hx
  .exact(h.resolve_left fun h=>h hg).1
  .exact B.in' x hx hg,fun v b hb x hx hg hv=>by
  rcases hx with rfl|hx
  .have h1:=(h.resolve_left fun h=>h hg).2;rw[hv,hb]at h1;omega
  .exact B.fst v b hb x hx hg hv⟩
theorem BI.put{g:Gr}{p:Nat->Int}{s:Lb}{all done:Nat->Prop}{by':Nat->Int}(B:BI g p s all done by'){a:Nat}(ha:all a)(hg:J2 g p s a)(hlt:by' (g.v a) = -1\/(a:Int)<by' (g.v a)):BI g p s all (fun x=>x=a\/done x) (upd by' (g.v a) (a:Int)):=by
 refine⟨fun v=>?_,fun x hx hgx=>?_,fun v b hb x hx hgx hv=>?_⟩
 .by_cases e:v=g.v a
  .subst e;exact .inr ⟨a,Dw _ _ _,ha,hg,rfl⟩
  .rw[E6 e];exact B.val v
 .by_cases e:g.v x=g.v a
  .rw[e,Dw];omega
  .rw[E6 e]
   rcases hx with rfl|hx
   .exact absurd U e
   .exact B.in' x hx hgx
 .by_cases e:v=g.v a
  .rw[e,Dw]at hb
   rcases hx with rfl|hx
   .omega
   .have h1:=B.in' x hx hgx;rw[hv,e]at h1
    rcases B.val (g.v a)with h2|⟨c,h2,-⟩
    .exact absurd h2 h1
    .have h3:=B.fst (g.v a) c h2 x hx hgx (hv.trans e);rw[h2]at hlt;omega
  .rw[E6 e]at hb
   rcases hx with rfl|hx
   .exact absurd hv.symm e
   .exact B.fst v b hb x hx hgx hv
theorem BI.congr{g:Gr}{p:Nat->Int}{s:Lb}{all done done':Nat->Prop}{by':Nat->Int}(B:BI g p s all done by')(h:∀x,done' x->done x):BI g p s all done' by':=⟨B.val,fun a ha=>B.in' a (h a ha),fun v b hb x hx=>B.fst v b hb x (h x hx)⟩
theorem Afc{w:World}{bf oo od oh ob n:Nat}{s:Lb}{g:Gr}{p:Nat->Int}{outs:List Value}{outL:Nat->List Nat}(hb:w.heap[ob]?=some (Bl 3 (BZ (fun _ => -1) n)))(hf:w.heap[bf]?=some (Bl 265 (FB oo od oh ob n)))(hd:w.heap[od]?=some (Bl 2 (BZ s.d n)))(hh:w.heap[oh]?=some (Bl 3 (BZ (RK s) n)))(ho:w.heap[oo]?=some (Bl 271 outs))(nf:bf≠ob)(nd:od≠ob)(nh:oh≠ob)(no:oo≠ob)(hsd:∀v,-1<=s.d v/\s.d v<=1152921504606846976/\s.h v<=1000000)(hout:∀u,u<n->∃au cu,outs[u]?=some (.slice au (outL u).length cu)/\Rd w au 4 (Hv g p) (outL u)/\(outL u≠[]->(adr au).block≠ob)/\(outL u).length<=1000000/\∀x∈outL u,g.u x=u/\g.v x<n /\ -1152921504606846976<=g.len p x/\g.len p x<=1152921504606846976/\x<=1000000)(hn6:n<=1000000:=by omega):
  Ret prog 199 #[ptr bf] w fun v w'=>v=.tuple #[]/\∃by':Nat->Int,BI g p s (fun a=>a∈outL (g.u a)) (fun a=>g.u a<n/\a∈outL (g.u a)) by'/\Ctx w [ob] w' [(ob,Bl 3 (BZ by' n))]:=by
 obtain⟨w0,rfl⟩:=qD w;have H:=Ctx.start1 hb;have nf':bf∉[ob]:=by rw[qab];exact nf
 have nd':od∉[ob]:=by rw[qab];exact nd
 have nh':oh∉[ob]:=by rw[qab];exact nh
 have no':oo∉[ob]:=by rw[qab];exact no
 refine Au (fn:=f199) func199 U [.pointer (some ⟨bf,0,none⟩)] U ?_;refine Ae (A4 U (A9 U (Ah MR U (Bb TI U ((by rw[Aj hf];rfl)) ?_))));refine Be NL U (Af U (qA (A1 (Bw 649037107316853453566312041148524 (α:=Nat × (Nat->Int)) (fun t=>[(12,.int .i64 (t.1:Int))]) (fun t w'=>t.1<=n/\BI g p s (fun a=>a∈outL (g.u a)) (fun a=>g.u a<t.1/\a∈outL (g.u a)) t.2/\Ctx w0 [ob] w' [(ob,Bl 3 (BZ t.2 n))]) (fun t=>n - t.1) (0,fun _ => -1) U ?_ ?_ ?_))))
 .exact⟨rfl,trivial⟩
 .exact⟨qaq _,⟨fun v => .inl rfl,fun a h=>absurd h.1 (qbd _),fun v a h=>absurd (show(-1:Int)=(a:Int)from h) (by omega)⟩,H⟩
 .rintro⟨u,by'⟩ j w ⟨hi,B,H⟩;dsimp only at hi B H;dsimp only;refine Ae (Bm U U (qA (Ax (Aw _ U ?_ ?_))))
  .intro h1;replace h1:=AM h1;obtain⟨au,cu,hou,R,hRn,hul,hx7⟩:=hout u (by omega);refine Ay (Aa (Ax (A1 (Ae (Af U (Bp NL NN U U ?_))))));refine Bb Xg U ((by rw[Aj (H.ext.to ho no')];simpa using hou)) ?_;refine Ad U (Am U (qA (Ae (Ap U (Be Mo U (Af U (qA (A1 ?_))))))));obtain⟨La,hLa⟩:=qD (outL u);rw[<-hLa]at R hRn hul hx7 |-;refine Bw 324518553658426726783156020052064 (α:=Nat × (Nat->Int)) (fun t=>[(19,.int .i64 (t.1:Int))]) (fun t w'=>t.1<=La.length/\BI g p s (fun a=>a∈outL (g.u a)) (fun a=>(g.u a<u/\a∈outL (g.u a))\/a∈La.take t.1) t.2/\Ctx w0 [ob] w' [(ob,Bl 3 (BZ t.2 n))]) (fun t=>La.length - t.1) (0,by') U ?_ ?_ ?_
   .exact⟨rfl,trivial⟩
   .exact⟨qaq _,B.congr (fun x hx=>hx.elim id fun h=>by simp at h),H⟩
   .rintro⟨i,by'⟩ j2 w ⟨hi2,B,H⟩;dsimp only at hi2 B H;dsimp only;refine Ae (Bm U U (qA (Ax (Aw _ U ?_ ?_))))
    .intro h2;replace h2:=AM h2;obtain⟨x,hxa⟩:=AE (l:=La) (i:=i);obtain⟨hxu,hxv,hl1,hl2,hx6⟩:=hx7 x (qac hxa);obtain⟨v,hv⟩:=qD (g.v x);obtain⟨ln,hln⟩:=qD (g.len p x);have hrow:Hv g p x=[.int .i64 (x:Int),.int .i64 (u:Int),.int .i64 (v:Int),.int .i64 ln]:=by unfold Hv;rw[hxu,hv,hln]
     rw[<-hv]at hxv;rw[<-hln]at hl1 hl2;have hne:La≠[]:=fun h=>by rw[h]at hxa;cases hxa
     have hau:(adr au).block∉[ob]:=by rw[qab];exact hRn hne
     have hun:u<n:=by omega
     obtain⟨du,hdu⟩:=qD (s.d u);obtain⟨hu,hhu⟩:=qD (s.h u);obtain⟨dv,hdv⟩:=qD (s.d v);obtain⟨hw,hhw⟩:=qD (s.h v);have hgdu:(tab s.d n)[u]?=some du:=by rw[BW hun,hdu]
     have hghu:(tab (RK s) n)[u]?=some (hu:Int):=by rw[BW hun,hhu];rfl
     have hgdv:(tab s.d n)[v]?=some dv:=by rw[BW hxv,hdv]
     have hghv:(tab (RK s) n)[v]?=some (hw:Int):=by rw[BW hxv,hhw];rfl
     have hbu:=hsd u;rw[<-hdu,<-hhu]at hbu
     have hgo:J2 g p s x↔(du ≠ -1/\hw≠0/\du+ln=dv/\hu+1=hw):=by
      unfold J2;rw[hxu,<-hv,<-hln,<-hdu,<-hhu,<-hdv,<-hhw]
     have hall:x∈outL (g.u x):=by rw[hxu,<-hLa];exact qac hxa
     have hsub:∀y,((g.u y<u/\y∈outL (g.u y))\/y∈La.take (i+1))->y=x\/((g.u y<u/\y∈outL (g.u y))\/y∈La.take i):=fun y hy=>by
      rcases hy with hy|hy
      .exact .inr (.inl hy)
      .rw[Ee hxa]at hy
       rcases qbc.1 hy with hy|hy
       .exact .inr (.inr hy)
       .exact .inl (qab.1 hy)
     have RD:=CB hd;have RH:=CB hh;refine Ay (Aa (Ax (A1 (Ae (Bg R Mo Iw U U (by rfl) ?_)))));refine C9 _ Xf Iw U U (Rd.rowE (R.ext H.ext hau) hxa hrow U) (Bc KW H ?_);rintro b5 w - H;refine Bn Iw U U U (by simp[AY]) H at0 U ?_;rintro w H;refine qA (Ax (DV 4835703278458516690436096 (α:=Unit) (fun _=>[(81,.bool (!decide (du ≠ -1/\hw≠0/\du+ln=dv/\hu+1=hw)))]) (fun _ w'=>Ctx w0 [ob] w' [(b5,Bl 270 [.int .i64 (x:Int),.int .i64 (u:Int),.int .i64 (v:Int),.int .i64 ln]),(ob,Bl 3 (BZ by' n))]) U ?_ ?_))
     .skip
      refine Ym (fun x=>x=_) Br U ?_;refine BE U (AZ U (A6 EG U (BX BU U (by rintro _ rfl;exact((by rw[Aj (H.drew.ext.to hf nf')];rfl))) ?_)));refine AX U (Bi Bf BD U U ?_);refine BX B4 U (by rintro _ rfl;exact(((RD.ext H.drew.ext nd').fld hgdu rfl (j:=0) rfl))) ?_;refine Als U U U (CW U (DK 31 U ?_ ?_))
      .intro h1;replace h1:=AM h1;refine A3 U (A3 U (A3 U (A3 U (A3 U (A3 U (A3 U (A3 U (A3 U (IQ U (.bool _) U ?_)))))))));refine CW U (A3 U (A3 U (A3 U (A3 U (A3 U (A3 U (A3 U (A3 U (A3 U ?_)))))))));refine A3 U (A3 U (A3 U (A3 U (A3 U (A3 U (A3 U (A3 U (A3 U (A3 U ?_)))))))));refine IQ U (.bool _) U (CW U (A3 U (A3 U (A3 U (A3 U (A3 U (A3 U (A3 U (A3 U ?_)))))))));refine A3 U (A3 U (A3 U (A3 U (A3 U (A3 U (A3 U (A3 U (A3 U (IQ U (.bool _) U ?_)))))))));refine BS ?_;rintro _ rfl;replace H:=H.drew;refine Aa ?_;exact⟨(),rfl,⟨qaa Value.bool (by clear hgdu hghu hgdv hghv hgo hdu hhu hdv hhw;rw[qad];simp_all;try omega),trivial⟩,H⟩
      .intro h2;replace h2:=AN h2;refine BE U (AZ U (A6 Iv U (BX GA U (by rintro _ rfl;exact((by rw[Aj (H.drew.ext.to hf nf')];rfl))) ?_)));refine A6 Ga U (Cj Cc U (by rintro _ rfl;exact H.drew) at0 U ?_);refine Bi E5 Gb U U ?_;refine BX Cc U (by rintro _ rfl;exact(((RH.ext H.drew.ext nh').fld hghv rfl (j:=0) rfl))) ?_;refine Als U U U (Gh U (.bool _) U (CW U (DK 42 U ?_ ?_)))
       .intro h3;replace h3:=AM h3;refine A3 U (A3 U (A3 U (A3 U (A3 U (A3 U (A3 U (A3 U (A3 U (A3 U ?_)))))))));refine A3 U (A3 U (A3 U (A3 U (A3 U (A3 U (A3 U (A3 U (A3 U (IQ U (.bool _) U ?_)))))))));refine CW U (A3 U (A3 U (A3 U (A3 U (A3 U (A3 U (A3 U (A3 U (A3 U ?_)))))))));refine A3 U (A3 U (A3 U (A3 U (A3 U (A3 U (A3 U (A3 U (IQ U (.bool _) U (BS ?_)))))))));rintro _ rfl;replace H:=H.drew;refine Aa ?_;exact⟨(),rfl,⟨qaa Value.bool (by clear hgdu hghu hgdv hghv hgo hdu hhu hdv hhw;rw[qad];simp_all;try omega),trivial⟩,H⟩
       .intro h4;replace h4:=AN h4;refine BE U (AZ U (A6 EG U (BX BU U (by rintro _ rfl;exact((by rw[Aj (H.drew.ext.to hf nf')];rfl))) ?_)));refine AX U (Bi Bf BD U U ?_);refine BX B4 U (by rintro _ rfl;exact(((RD.ext H.drew.ext nd').fld hgdu rfl (j:=0) rfl))) ?_;refine A6 Qx U (Cj B4 U (by rintro _ rfl;exact H.drew) at0 U ?_);refine D4 U U ?_;refine BE U (AZ U (A6 EG U (BX BU U (by rintro _ rfl;exact((by rw[Aj (H.drew.ext.to hf nf')];rfl))) ?_)));refine A6 Ga U (Cj Cc U (by rintro _ rfl;exact H.drew) at0 U ?_);refine Bi Bf BD U U ?_;refine BX B4 U (by rintro _ rfl;exact(((RD.ext H.drew.ext nd').fld hgdv rfl (j:=0) rfl))) ?_;refine Ox U U (Gh U (.bool _) U (CW U (DK 63 U ?_ ?_)))
        .intro h5;replace h5:=CY h5;refine A3 U (A3 U (A3 U (A3 U (A3 U (A3 U (A3 U (A3 U (A3 U (A3 U ?_)))))))));refine A3 U (A3 U (A3 U (A3 U (A3 U (A3 U (A3 U (IQ U (.bool _) U (BS ?_))))))));rintro _ rfl;replace H:=H.drew;refine Aa ?_;exact⟨(),rfl,⟨qaa Value.bool (by clear hgdu hghu hgdv hghv hgo hdu hhu hdv hhw;rw[qad];simp_all;try omega),trivial⟩,H⟩
        .intro h6;replace h6:=CZ h6;refine BE U (AZ U (A6 Iv U (BX GA U (by rintro _ rfl;exact((by rw[Aj (H.drew.ext.to hf nf')];rfl))) ?_)));refine AX U (Bi E5 Gb U U ?_);refine BX Cc U (by rintro _ rfl;exact(((RH.ext H.drew.ext nh').fld hghu rfl (j:=0) rfl))) ?_;refine D4 U U ?_;refine BE U (AZ U (A6 Iv U (BX GA U (by rintro _ rfl;exact((by rw[Aj (H.drew.ext.to hf nf')];rfl))) ?_)));refine A6 Ga U (Cj Cc U (by rintro _ rfl;exact H.drew) at0 U ?_);refine Bi E5 Gb U U ?_;refine BX Cc U (by rintro _ rfl;exact(((RH.ext H.drew.ext nh').fld hghv rfl (j:=0) rfl))) ?_;refine Ox U U (Gh U (.bool _) U (BS ?_));rintro _ rfl;replace H:=H.drew;refine Aa ?_
         exact⟨(),rfl,⟨qaa Value.bool (by clear hgdu hghu hgdv hghv hgo hdu hhu hdv hhw;rw[qad];simp_all;try omega),trivial⟩,H⟩
     .rintro - j6 w H;refine Aw _ U ?_ ?_
      .intro h3;have hng:¬J2 g p s x:=by rw[hgo];exact qbn (by simpa only[qcr]using h3)
       refine Bt (An (AK (Aa (A0 (Az U U ?_)))));refine Af U (qA ?_);exact⟨(i+1,by'),rfl,⟨rfl,trivial⟩,⟨by dsimp only;omega,(B.skip (.inl hng)).congr hsub,H.tail⟩,by dsimp only;omega⟩
      .intro h3;have hg:J2 g p s x:=by rw[hgo];simpa using h3
       have hgb:(tab by' n)[v]?=some (by' v):=BW hxv;have hnot:by' v ≠ -1->by' v<=(x:Int)->BI g p s (fun a=>a∈outL (g.u a)) (fun a=>(g.u a<u/\a∈outL (g.u a))\/a∈La.take (i+1)) by':=fun h h'=>(B.skip (.inr (hv ▸ ⟨h,h'⟩))).congr hsub
       refine Ay (Aa (DT (fun x=>x=_) Br U ?_));refine BE U (AZ U (A6 KS U (BX GA U (by rintro _ rfl;exact((by rw[Aj (H.drew.ext.to hf nf')];rfl))) ?_)));refine A6 Ga U (Cj Cc U (by rintro _ rfl;exact H.drew) at0 U ?_);refine Bi E5 Gb U U ?_;refine BX Cc U (by rintro _ rfl;exact(((CB (H.drew.get at1)).fld hgb rfl (j:=0) rfl))) ?_;refine Dv U (BS ?_);rintro _ rfl;replace H:=H.drew;refine Ae (Af U (C3 U U (A2 U (AR 92 U ?_ ?_))))
       .intro h4;replace h4:=AM h4;refine Ag U (Ag U (Ag U (Ag U (AA U (.bool _) U (qA (DB U (Ft [([0,1,2,3,4,5,6,7,8],9)] (fun z=>z.heap[bf]?=some (Bl 265 (FB oo od oh ob n))/\z.heap[b5]?=some (Bl 270 [.int .i64 (x:Int),.int .i64 (u:Int),.int .i64 (v:Int),.int .i64 ln])) [9] Br (⟨H.drew.ext.to hf nf',H.drew.get at0⟩) ?_)))))));refine AD U U (BG U (Ba U (Ao KS U (B0 GA U (fun _ hx=>(by rw[Aj hx.1];rfl)) ?_))));refine Ao Ga U (B0 Cc U (fun _ hx=>(by rw[Aj hx.2];rfl)) ?_);refine Ao Qw U (B0 Cc U (fun _ hx=>(by rw[Aj hx.2];rfl)) ?_);refine AP E5 Gb U U (AU ?_);replace H:=H.drew;refine Cl v (fun q => .int .i64 (upd by' v (x:Int) q)) (.int _ _) Gb U U U H at1 (by simp) (by rw[Dw]) (fun q _ hq=>by rw[E6 hq]) ?_;rintro w H
        refine Ab (Bz U (BF (A8 (Aa (A0 (Az U U ?_))))));refine Af U (qA ?_);exact⟨(i+1,upd by' v (x:Int)),rfl,⟨rfl,trivial⟩,⟨by dsimp only;omega,(hv ▸ B.put hall hg (.inl (hv ▸ h4))).congr hsub,H.tail⟩,by dsimp only;omega⟩
       .intro h4;replace h4:=AN h4;refine Ah Qw U (AG Cc U H at0 U (Af U (Bm U U (AJ U (.bool _) U (qA (Aw _ U ?_ ?_))))))
        .intro h5;replace h5:=AM h5;refine Ft [([0,1,2,3,4,5,6,7,8],9)] (fun z=>z.heap[bf]?=some (Bl 265 (FB oo od oh ob n))/\z.heap[b5]?=some (Bl 270 [.int .i64 (x:Int),.int .i64 (u:Int),.int .i64 (v:Int),.int .i64 ln])) [9] Br (⟨H.drew.ext.to hf nf',H.drew.get at0⟩) ?_;refine AD U U (BG U (Ba U (Ao KS U (B0 GA U (fun _ hx=>(by rw[Aj hx.1];rfl)) ?_))));refine Ao Ga U (B0 Cc U (fun _ hx=>(by rw[Aj hx.2];rfl)) ?_);refine Ao Qw U (B0 Cc U (fun _ hx=>(by rw[Aj hx.2];rfl)) ?_);refine AP E5 Gb U U (AU ?_);replace H:=H.drew;refine Cl v (fun q => .int .i64 (upd by' v (x:Int) q)) (.int _ _) Gb U U U H at1 (by simp) (by rw[Dw]) (fun q _ hq=>by rw[E6 hq]) ?_;rintro w H;refine Ab (Bz U (BF (A8 (Aa (A0 (Az U U ?_))))));refine Af U (qA ?_)
         exact⟨(i+1,upd by' v (x:Int)),rfl,⟨rfl,trivial⟩,⟨by dsimp only;omega,(hv ▸ B.put hall hg (.inr (hv ▸ h5))).congr hsub,H.tail⟩,by dsimp only;omega⟩
        .intro h5;replace h5:=AN h5;refine Ay (A8 (Aa (A0 (Az U U ?_))));refine Af U (qA ?_);exact⟨(i+1,by'),rfl,⟨rfl,trivial⟩,⟨by dsimp only;omega,hnot h4 (by omega),H.tail⟩,by dsimp only;omega⟩
    .intro h2;replace h2:=AN h2;refine Bt (An (An (AK (A8 (Aa (A0 (Az U U ?_)))))));refine Af U (qA ?_);have hiL:i=La.length:=by omega
     refine⟨(u+1,by'),rfl,⟨rfl,trivial⟩,⟨by dsimp only;omega,B.congr fun y hy=>?_,H⟩,by dsimp only;omega⟩;rw[hiL,qbm]
     rcases qap (g.u y) u with h7|h7
     .exact .inl ⟨h7,hy.2⟩
     .have hyu:g.u y=u:=by have:=hy.1;dsimp only at this;omega
      exact .inr (by rw[hLa,<-hyu];exact hy.2)
  .intro h1;replace h1:=AN h1;refine Bt (An (An (AK (CV U U ?_))));obtain rfl:u=n:=by omega
   exact⟨rfl,by',B,H⟩
structure Slo where
 a:Option Addr
 n:Nat
 c:Nat
 full:List Value
def sloV(s:Slo):Value := .slice s.a s.n s.c
abbrev Mv(s:Slo):List (Nat × Obj):=ent s.a 270 s.full
abbrev Aak(nn:Nat)(st:Nat->Slo):List Value:=(List.range nn).map fun u=>sloV (st u)
structure OutR(w0 w:World)(oo nn:Nat)(g:Gr)(p:Nat->Int)(st:Nat->Slo)(sel:Nat->List Nat)(oth:Nat->Prop):Prop where
 tbl:w.heap[oo]?=some (Bl 271 (Aak nn st))
 os:∀u,u<nn->OS (st u).a (st u).n (st u).c 4 (st u).full ((sel u).flatMap (Hv g p))
 blk:∀u,u<nn->∀y∈Mv (st u),w.heap[y.1]?=some y.2/\w0.heap.size<=y.1/\¬oth y.1/\y.1≠oo
 ne:∀u v,u<nn->v<nn->u≠v->∀y∈Mv (st u),∀z∈Mv (st v),y.1≠z.1
def QC(oo nn:Nat)(st:Nat->Slo):Mt:=fun x=>x=oo\/∃u,u<nn/\∃y∈Mv (st u),y.1=x
theorem OutR.keep{w0 w w':World}{oo nn:Nat}{g:Gr}{p:Nat->Int}{st:Nat->Slo}{sel:Nat->List Nat}{oth:Nat->Prop}(R:OutR w0 w oo nn g p st sel oth){S:List Nat}(h:Ext S w w')(hS:∀x∈S,¬QC oo nn st x):OutR w0 w' oo nn g p st sel oth :=
 ⟨h.to R.tbl fun hm=>hS _ hm (.inl rfl),R.os,fun u hu y hy=>⟨h.to (R.blk u hu y hy).1 fun hm=>hS _ hm (.inr ⟨u,hu,y,hy,rfl⟩),(R.blk u hu y hy).2⟩,R.ne⟩
def stS(st:Nat->Slo)(u:Nat)(s:Slo):Nat->Slo:=fun q=>if q=u then s else st q
theorem I5(st:Nat->Slo)(u:Nat)(s:Slo):stS st u s u=s:=if_pos rfl
theorem Lh{st:Nat->Slo}{u:Nat}{s:Slo}{q:Nat}(h:q≠u):stS st u s q=st q:=if_neg h
theorem OutR.step{w0 w w':World}{oo nn:Nat}{g:Gr}{p:Nat->Int}{st:Nat->Slo}{sel sel':Nat->List Nat}{oth:Nat->Prop}(R:OutR w0 w oo nn g p st sel oth){u:Nat}(hu:u<nn){s:Slo}(hoth:∀x,oth x->x<w.heap.size)(h0:w0.heap.size<=w.heap.size)(H:Ctx w ((oo::(Mv (st u)).map (·.1))) w' ((oo,Bl 271 (Aak nn (stS st u s)))::Mv s))(O:OS s.a s.n s.c 4 s.full ((sel' u).flatMap (Hv g p)))(hsel:∀q,q≠u->sel' q=sel q) :
  OutR w0 w' oo nn g p (stS st u s) sel' oth/\∀x,QC oo nn (stS st u s) x->QC oo nn st x\/w.heap.size<=x:=by
 have hlt:∀q,q<nn->∀y∈Mv (st q),y.1<w.heap.size:=fun q hq y hy=>Bd (R.blk q hq y hy).1;have hoo:=Bd R.tbl;have hnd:=(qbx.1 H.nd).1
 have hnew:∀y∈Mv s,(∃z∈Mv (st u),z.1=y.1)\/w.heap.size<=y.1:=fun y hy=>by
  rcases H.own y (qaj _ hy)with h|h
  .rcases qai.1 h with h|h
   .exact absurd h.symm (hnd y hy)
   .obtain⟨z,hz,he⟩:=qah.1 h;exact .inl ⟨z,hz,he⟩
  .exact .inr h
 have hout:∀q,q<nn->q≠u->∀y∈Mv (st q),y.1∉oo::(Mv (st u)).map (·.1):=fun q hq hqu y hy hm=>by
  rcases qai.1 hm with h|h
  .exact(R.blk q hq y hy).2.2.2 h
  .obtain⟨z,hz,he⟩:=qah.1 h;exact R.ne q u hq hu hqu y hy z hz he.symm
 refine⟨⟨H.get at0,fun q hq=>?_,fun q hq y hy=>?_,fun q v hq hv hqv y hy z hz=>?_⟩,fun x hx=>?_⟩
 .by_cases e:q=u
  .subst e;rw[I5];exact O
  .rw[Lh e,hsel q e];exact R.os q hq
 .by_cases e:q=u
  .subst e;rw[I5]at hy;refine⟨H.blk y (qaj _ hy),?_,?_,fun h=>hnd y hy h.symm⟩
   .rcases hnew y hy with⟨z,hz,he⟩|h
    .rw[<-he];exact(R.blk q hq z hz).2.1
    .omega
   .rcases hnew y hy with⟨z,hz,he⟩|h
    .rw[<-he];exact(R.blk q hq z hz).2.2.1
    .exact fun ho=>by have:=hoth _ ho;omega
  .rw[Lh e]at hy;obtain⟨h1,h2,h3,h4⟩:=R.blk q hq y hy;exact⟨H.ext.to h1 (hout q hq e y hy),h2,h3,h4⟩
 .by_cases e:q=u
  .subst e;rw[I5]at hy;rw[Lh (Ne.symm hqv)]at hz
   rcases hnew y hy with⟨t,ht,he⟩|h
   .rw[<-he];exact R.ne q v hq hv hqv t ht z hz
   .have:=hlt v hv z hz;omega
  .rw[Lh e]at hy
   by_cases e2:v=u
   .subst e2;rw[I5]at hz
    rcases hnew z hz with⟨t,ht,he⟩|h
    .rw[<-he];exact R.ne q v hq hv hqv y hy t ht
    .have:=hlt q hq y hy;omega
   .rw[Lh e2]at hz;exact R.ne q v hq hv hqv y hy z hz
 .rcases hx with h|⟨q,hq,y,hy,rfl⟩
  .exact .inl (.inl h)
  .by_cases e:q=u
   .subst e;rw[I5]at hy
    rcases hnew y hy with⟨t,ht,he⟩|h
    .exact .inl (.inr ⟨q,hq,t,ht,he⟩)
    .exact .inr h
   .rw[Lh e]at hy;exact .inl (.inr ⟨q,hq,y,hy,rfl⟩)
theorem OutR.ctx{w0 w:World}{oo nn:Nat}{g:Gr}{p:Nat->Int}{st:Nat->Slo}{sel:Nat->List Nat}{oth:Nat->Prop}(R:OutR w0 w oo nn g p st sel oth){u:Nat}(hu:u<nn):Ctx w (oo::(Mv (st u)).map (·.1)) w ((oo,Bl 271 (Aak nn st))::Mv (st u)):=by
 refine⟨.refl _ _,fun x hx=>?_,qbx.2 ⟨fun y hy h=>(R.blk u hu y hy).2.2.2 h.symm,Fu⟩,fun x hx => .inl ?_⟩
 .rcases qai.1 hx with rfl|hx
  .exact R.tbl
  .exact(R.blk u hu x hx).1
 .rcases qai.1 hx with rfl|hx
  .exact qak ..
  .exact qaj _ (qah.2 ⟨x,hx,rfl⟩)
def Jl(g:Gr)(l:List Nat)(u:Nat):List Nat:=l.filter fun a=>decide (g.u a=u)
theorem Aal{g:Gr}{l:List Nat}{i a:Nat}(h:l[i]?=some a):Jl g (l.take (i+1)) (g.u a)=Jl g (l.take i) (g.u a)++[a]/\∀q,q≠g.u a->Jl g (l.take (i+1)) q=Jl g (l.take i) q:=by
 unfold Jl;rw[Ee h];refine⟨by rw[qcp];congr 1;rw[qbw,qan rfl];rfl,fun q hq=>?_⟩;rw[qcp,qbw,qa2 (Ne.symm hq)];simp
theorem Aqc{g:Gr}{cap x p:Nat->Int}{src:List Nat}{n:Nat}{m:Int}{s:Lb}{by':Nat->Int}{all done:Nat->Prop}(D:Done (Nb g cap x p) src n m s)(hA:TZ (Nb g cap x p) n m)(B:BI g p s all done by')(hall:∀a,all a->a<2*g.E/\0<CI cap x a)(hdone:∀a,a<2*g.E->0<CI cap x a->done a) :
  Bys g cap x p s fun v=>if by' v = -1 then none else some (by' v).toNat:=by
 have hmem:∀a,a<2*g.E->0<CI cap x a->(g.u a,g.v a,g.len p a)∈Nb g cap x p:=fun a h1 h2=>Lc.2 ⟨a,h1,h2,rfl⟩;refine⟨fun v hv=>?_,fun v hd hh=>?_⟩
 .dsimp only
  by_cases e:by' v = -1
  .rw[if_pos e]
  .exfalso
   rcases B.val v with h|⟨a,_,ha,⟨h1,h2,h3,h4⟩,hva⟩
   .exact e h
   .obtain⟨ha1,ha2⟩:=hall a ha;have hl:=(hA _ (hmem a ha1 ha2)).2.2.1;dsimp only at hl;rw[hva]at h2 h3
    rcases hv with hv|hv
    .have:=D.J.low (g.u a);omega
    .exact h2 hv
 .obtain⟨b,hb,hbv,hb1,hb2,hb3⟩:=D.pre v hd hh;obtain⟨a,ha1,ha2,rfl⟩:=Lc.1 hb;dsimp only at hbv hb1 hb2 hb3;have hg:J2 g p s a:=⟨hb1,by rw[hbv];exact hh,by rw[hbv];exact hb2,by rw[hbv];exact hb3⟩;have hne:=B.in' a (hdone a ha1 ha2) hg;rw[hbv]at hne
  rcases B.val v with h|⟨a',hby,ha',⟨h1,h2,h3,h4⟩,hva⟩
  .exact absurd h hne
  .obtain⟨q1,q2⟩:=hall a' ha';refine⟨a',by dsimp only;rw[if_neg hne,hby];rfl,⟨q1,q2,h1,by rw[hva];exact hd,h3,h4⟩,hva⟩
structure WaysX(g:Gr)(cap x p:Nat->Int)(s:Lb)(by':Nat->Int):Prop where
 rlx:∀a∈Nb g cap x p,s.d a.1 ≠ -1->Rlx s a
 fst:∀v (a:Nat),by' v=(a:Int)->∀b,b<2*g.E->0<CI cap x b->J2 g p s b->g.v b=v->a<=b
 all':∀v (a:Nat),by' v=(a:Int)->a<2*g.E/\0<CI cap x a/\J2 g p s a/\g.v a=v
 some':∀b,b<2*g.E->0<CI cap x b->J2 g p s b->by' (g.v b) ≠ -1
 neg:∀v,by' v = -1\/∃a:Nat,by' v=(a:Int)
theorem Ug{A:List Ar}{src:List Nat}{n:Nat}{m m':Int}{s s':Lb}(D:Done A src n m s)(D':Done A src n m' s')(r:∀a∈A,s'.d a.1 ≠ -1->Rlx s' a):∀(k v:Nat),s.h v=k->s.d v ≠ -1->s'.d v ≠ -1/\le2 (s'.d v) (s'.h v) (s.d v) (s.h v):=by
 intro k
 induction k with
 |zero =>
  intro v hk hv;have h1:=D.J.zero v hv hk;obtain⟨-,h2,h3⟩:=D'.J.src' v h1;have h4:=D.J.low v;refine⟨by omega,?_⟩;unfold le2;omega
 |succ k ih =>
  intro v hk hv;obtain⟨a,ha,hav,h1,h2,h3⟩:=D.pre v hv (by omega);obtain⟨h4,h5⟩:=ih a.1 (by omega) h1;obtain⟨h6,h7⟩:=r a ha h4;rw[hav]at h6 h7;refine⟨h6,?_⟩;unfold le2 at h5 h7 |-;omega
theorem Afd{A:List Ar}{src:List Nat}{n:Nat}{m m':Int}{s s':Lb}(D:Done A src n m s)(D':Done A src n m' s')(r:∀a∈A,s.d a.1 ≠ -1->Rlx s a)(r':∀a∈A,s'.d a.1 ≠ -1->Rlx s' a):s=s':=by
 have h:∀v,s.d v=s'.d v/\s.h v=s'.h v:=fun v=>by
  by_cases e:s.d v = -1
  .by_cases e':s'.d v = -1
   .exact⟨e.trans e'.symm,by rw[D.J.none' v e,D'.J.none' v e']⟩
   .exact absurd e (Ug D' D r _ v U e').1
  .obtain⟨e',h1⟩:=Ug D D' r' _ v rfl e;obtain⟨-,h2⟩:=Ug D' D r _ v rfl e';unfold le2 at h1 h2;omega
 obtain⟨d,hh⟩:=s;obtain⟨d',hh'⟩:=s';obtain rfl:d=d':=funext fun v=>(h v).1;obtain rfl:hh=hh':=funext fun v=>(h v).2;rfl
theorem Aqd{g:Gr}{cap x p:Nat->Int}{s:Lb}{f f':Nat->Int}(X:WaysX g cap x p s f)(X':WaysX g cap x p s f'):f=f':=funext fun v=>by
 rcases X.neg v with h|⟨a,h⟩
 .rcases X'.neg v with h'|⟨a',h'⟩
  .rw[h,h']
  .obtain⟨h1,h2,h3,h4⟩:=X'.all' v a' h';exact absurd (h4 ▸ h) (X.some' a' h1 h2 h3)
 .obtain⟨h1,h2,h3,h4⟩:=X.all' v a h
  rcases X'.neg v with h'|⟨a',h'⟩
  .exact absurd (h4 ▸ h') (X'.some' a h1 h2 h3)
  .obtain⟨k1,k2,k3,k4⟩:=X'.all' v a' h';have h5:=X.fst v a h a' k1 k2 k3 k4;have h6:=X'.fst v a' h' a h1 h2 h3 h4;rw[h,h'];omega
theorem Aam{n:Nat}{A:List Ar}{src:List Nat}{d:Int}(hA:∀v,v<n->J0 A v<=d)(_:0<=d:=by omega):psi n A (-1) (lb0 src) (JX src)<=src.length+n*(d*(n+1)):=by
 have hg:∀v,gv n (-1) (lb0 src) (JX src) v=(n:Int)+1:=fun v=>by
  unfold gv;rw[if_neg];rintro⟨h1,h2⟩;unfold lb0 at h1 h2;dsimp only at h1 h2
  split at h1 <;> split at h2 <;> omega
 have h1:=KY (f:=fun v=>J0 A v*gv n (-1) (lb0 src) (JX src) v) (g:=fun _=>d*((n:Int)+1)) (k:=n) fun i hi=>by
  rw[hg];exact qem (hA i hi) (by omega)
 have h2:∀(c:Int) (k:Nat),BJ (fun _=>c) k=k*c:=fun c k=>by
  induction k with
  |zero=>show(0:Int)=((0:Nat):Int)*c;rw[show((0:Nat):Int)=0 from rfl,Int.zero_mul]
  |succ k ih =>
   show BJ (fun _=>c) k+c=_;rw[ih,qdq,Int.add_mul];simp
 rw[h2]at h1;unfold psi JX;rw[qal];have h3:BJ (fun v=>J0 A v*gv n (-1) (lb0 src) (List.map (fun v=>((0:Int),v)) src) v) n<=(n:Int)*(d*((n:Int)+1)):=h1;omega
theorem YQ{A:List Ar}{src:List Nat}{n:Nat}{m D:Int}{u:Nat}(hA:TZ A n m)(hm:0<=m)(hn:n<=60)(hD:0<=D):∀(l dn:List Ar) (s:Lb) (hp:List Tg),DJ A src n m s->Clo A s hp u dn->(∀a∈l,a∈A/\a.1=u)->s.d u=D->PI n D s hp ->
  DJ A src n m (l.foldl JW (s,hp)).1/\Clo A (l.foldl JW (s,hp)).1 (l.foldl JW (s,hp)).2 u (dn++l)/\(l.foldl JW (s,hp)).1.d u=D/\PI n D (l.foldl JW (s,hp)).1 (l.foldl JW (s,hp)).2/\psi n A D (l.foldl JW (s,hp)).1 (l.foldl JW (s,hp)).2<=psi n A D s hp+l.length
 | [],dn,s,hp,J,K,_,hu,P=>⟨J,by simpa using K,hu,P,by simp⟩
 |a::l,dn,s,hp,J,K,hl,hu,P=>by
  obtain⟨ha,hau⟩:=hl a (qak ..);obtain⟨J1,K1,h1,h2,-⟩:=DJ.relax hA hm hn J K ha hau (by rw[hu];omega);obtain⟨P1,h3⟩:=P.relax (A:=A) (a:=a) (by rw[hau];exact hu) hD (hA a ha).2.2.1 J.low fun h=>J1.hops h;obtain⟨r1,r2,r3,r4,r5⟩:=YQ hA hm hn hD l (dn++[a]) (Ht s a) (Jj s a hp) J1 K1 (fun b hb=>hl b (qaj _ hb)) (by rw[h1];exact hu) P1;rw[qas]at r2;refine⟨r1,r2,r3,r4,?_⟩;rw[qa9,qc9];have h4:JW (s,hp) a=(Ht s a,Jj s a hp):=rfl;rw[h4];omega
structure MI(A:List Ar)(src:List Nat)(n:Nat)(m D:Int)(s:Lb)(hp:List Tg):Prop where
 dj:DJ A src n m s
 clo:Clo A s hp 0 A
 pi:PI n D s hp
theorem Clo.any{A:List Ar}{s:Lb}{hp:List Tg}{u:Nat}(K:Clo A s hp u A)(v:Nat):Clo A s hp v A:=fun x hx=>(K x hx).imp id fun h a ha hax _=>h a ha hax fun _=>ha
theorem Clo.perm{A:List Ar}{s:Lb}{hp hq:List Tg}{u:Nat}{dn:List Ar}(K:Clo A s hp u dn)(h:hp.Perm hq):Clo A s hq u dn:=fun x hx=>(K x hx).imp (fun h'=>h.mem_iff.1 h') id
theorem MI.perm{A:List Ar}{src:List Nat}{n:Nat}{m D:Int}{s:Lb}{hp hq:List Tg}(M:MI A src n m D s hp)(h:hp.Perm hq):MI A src n m D s hq:=⟨M.dj,M.clo.perm h,M.pi.perm h⟩
theorem MI.start{A:List Ar}{src:List Nat}{n:Nat}{m:Int}(hs:∀v∈src,v<n)(hnd:src.Nodup):MI A src n m (-1) (lb0 src) (JX src):=by
 refine⟨DJ.start hs,fun v hv=>?_,fun t ht=>?_,fun t ht=>?_,fun v hv=>?_⟩
 .have hm:v∈src:=by
   rcases Decidable.em (v∈src)with h|h
   .exact h
   .exact absurd (if_neg h) hv
  have:(lb0 src).d v=0:=if_pos hm;rw[this];exact .inl (qah.2 ⟨v,hm,rfl⟩)
 .obtain⟨v,_,rfl⟩:=qah.1 ht;show(-1:Int)<=0;omega
 .obtain⟨v,hv,rfl⟩:=qah.1 ht;have:(lb0 src).d v=0:=if_pos hv;dsimp only;rw[this];omega
 .have hm:v∈src:=by
   rcases Decidable.em (v∈src)with h|h
   .exact h
   .exact absurd (if_neg h) hv
  have h1:(JX src).Nodup:=List.Pairwise.map _ (fun a b h e=>h (Prod.mk.inj e).2) hnd;have h2:=List.nodup_iff_count.1 h1 ((lb0 src).d v,v);have h3:=hs v hm;show _+0<=n;omega
section
variable {A:List Ar}{src:List Nat}{n:Nat}{m D:Int}{s:Lb}{hp:List Tg}{t:Tg}
theorem MI.lt(hA:TZ A n m)(M:MI A src n m D s hp){v:Nat}(hv:s.d v ≠ -1):v<n:=by
 by_cases h:s.h v=0
 .exact(M.dj.src' v (M.dj.zero v hv h)).1
 .obtain⟨a,ha,h1,_⟩:=M.dj.pre v hv h;rw[<-h1];exact(hA a ha).2.1
theorem MI.top(hA:TZ A n m)(M:MI A src n m D s (t::hp)):t.2<n:=M.lt hA (M.pi.item t (qak ..)).1
theorem MI.drop(hA:TZ A n m)(M:MI A src n m D s (t::hp))(hmin:∀x∈hp,t.1<=x.1)(hne:t.1≠s.d t.2):MI A src n m t.1 s hp/\psi n A t.1 s hp+1<=psi n A D s (t::hp):=by
 obtain⟨P1,h1,-⟩:=M.pi.pop (A:=A) hmin (M.top hA);refine⟨⟨M.dj,fun v hv=>(M.clo v hv).imp (fun h=>?_) id,P1⟩,h1⟩
 rcases qai.1 h with h|h
 .exact absurd (by rw[<-h]) hne
 .exact h
theorem MI.key0(M:MI A src n m D s (t::hp))(he:t.1=s.d t.2):0<=t.1:=by
 have h1:=(M.pi.item t (qak ..)).1;have:=M.dj.low t.2;omega
theorem MI.go(hA:TZ A n m)(hm:0<=m)(hn:n<=60)(M:MI A src n m D s (t::hp))(hmin:∀x∈hp,t.1<=x.1)(he:t.1=s.d t.2){l l1:List Ar}(hl:A.filter (fun a=>decide (a.1=t.2))=l++l1) :
  DJ A src n m (l.foldl JW (s,hp)).1/\(l1=[]->MI A src n m t.1 (l.foldl JW (s,hp)).1 (l.foldl JW (s,hp)).2/\psi n A t.1 (l.foldl JW (s,hp)).1 (l.foldl JW (s,hp)).2+1<=psi n A D s (t::hp)):=by
 obtain⟨P1,-,h1⟩:=M.pi.pop (A:=A) hmin (M.top hA)
 have hla:∀a∈l,a∈A/\a.1=t.2:=fun a ha=>by
  have h2:a∈A.filter (fun a=>decide (a.1=t.2)):=by rw[hl];exact qao _ ha
  obtain⟨h3,h4⟩:=qbe.1 h2;exact⟨h3,qba h4⟩
 have K0:Clo A s hp t.2 []:=fun v hv=>by
  by_cases e:v=t.2
  .exact .inr fun a _ hav hd=>by cases hd e
  .refine(M.clo v hv).imp (fun h=>?_) fun h a ha hav _=>h a ha hav fun _=>ha
   rcases qai.1 h with h|h
   .exact absurd (by rw[<-h]) e
   .exact h
 obtain⟨r1,r2,r3,r4,r5⟩:=YQ hA hm hn (M.key0 he) l [] s hp M.dj K0 hla he.symm P1;refine⟨r1,fun hl1=>?_⟩;rw[hl1,qa0]at hl
 have KK:Clo A (l.foldl JW (s,hp)).1 (l.foldl JW (s,hp)).2 t.2 A:=fun v hv=>(r2 v hv).imp id fun h a ha hav hd=>h a ha hav fun e=>by
  rw[qca,<-hl];exact qbe.2 ⟨ha,qan (hav.trans e)⟩
 refine⟨⟨r1,KK.any 0,r4⟩,?_⟩;have h2:=h1 he;have h3:J0 A t.2=(l.length:Nat):=by unfold J0;rw[hl]
 omega
theorem MI.ends(M:MI A src n m D s []):Done A src n m s:=M.dj.ends M.clo
theorem MI.rlx(M:MI A src n m D s []):∀a∈A,s.d a.1 ≠ -1->Rlx s a:=fun a ha h=>(M.clo a.1 h).elim (fun h=>by cases h) fun h=>h a ha rfl fun _=>ha
end
theorem Afe(g:Gr)(cap x p:Nat->Int):Nb g cap x p=(EU cap x g.E).map (JV g p):=rfl
theorem V3(g:Gr)(cap x p:Nat->Int)(u:Nat):(Nb g cap x p).filter (fun a=>decide (a.1=u))=(Jl g (EU cap x g.E) u).map (JV g p):=by
 rw[Afe,List.filter_map];rfl
theorem Uh{N:Int}{es:List Ed}{fl pot:List Int}(h:Ja N es fl pot=true):Fine (grE N es) (Cs es) (flE fl) (Fk pot):=by
 unfold Ja at h;simp only[qae]at h;obtain⟨hw,_,ha⟩:=h;obtain⟨h1,_,h2⟩:=C5 hw;refine⟨fun i hi=>?_,fun a ha' hr=>?_⟩
 .obtain⟨e,he⟩:=AE (l:=es) (i:=i) (h:=hi);obtain⟨x,hx⟩:=AE (l:=fl) (i:=i) (h:=by rw[h1];exact hi);have:=h2 i e x he hx;unfold flE Cs;rw[Bv he,Bv hx];exact this
 .have:=qaw.1 ha a (qbe.2 ⟨qa5.2 ha',qan hr⟩);exact qba this
theorem Ui{N:Int}{es:List Ed}{fl pot:List Int}(hw:Cu N es fl=true)(hp:GL N pot=true)(h:Fine (grE N es) (Cs es) (flE fl) (Fk pot)):Ja N es fl pot=true:=by
 unfold Ja;rw[hw,hp,qcl,qcl];refine qaw.2 fun a ha=>?_;obtain⟨h1,h2⟩:=qbe.1 ha;exact qan (h.fit a (qa5.1 h1) (qba h2))
theorem Ajx{N:Int}{es:List Ed}{pot:List Int}(hr:CA N es=true){B:Int}(hB:∀v,-B<=Fk pot v/\Fk pot v<=B)(a:Nat):(grE N es).len (Fk pot) a<=1000+2*B /\ -(1000+2*B)<=(grE N es).len (Fk pot) a:=by
 have h1 : -1000<=(grE N es).c a/\(grE N es).c a<=1000:=by
  have h2 : -1000<=(grE N es).co (a / 2)/\(grE N es).co (a / 2)<=1000:=by
   show -1000<=(es.getD (a / 2) e0).cost/\(es.getD (a / 2) e0).cost<=1000
   rcases qap (a / 2) es.length with h|h
   .obtain⟨e,he⟩:=AE (l:=es) (h:=h);have:=Fb ((CS hr).2.2.2.1 e (qac he));rw[Bv he];omega
   .rw[qbu,qbi h];exact⟨by decide,by decide⟩
  unfold Gr.c
  split
  .exact h2
  .omega
 have h3:=hB ((grE N es).u a);have h4:=hB ((grE N es).v a);unfold Gr.len;omega
theorem Ajy{N:Int}{pot:List Int}(hp:GL N pot=true)(v:Nat) : -1099511627776<=Fk pot v/\Fk pot v<=1099511627776:=by
 unfold Fk
 rcases qap v pot.length with h|h
 .obtain⟨x,hx⟩:=AE (l:=pot) (h:=h);rw[Bv hx];exact(Mu hp).2 v x hx
 .rw[qbu,qbi h];exact⟨by decide,by decide⟩
theorem DJ.dist{A:List Ar}{src:List Nat}{n:Nat}{m:Int}{s:Lb}(J:DJ A src n m s)(hm:0<=m)(hn:n<=60)(v:Nat) : -1<=s.d v/\s.d v<=60*m/\s.h v<=60:=by
 by_cases h:s.d v = -1
 .have h1:=J.none' v h;have:0<=60*m:=by omega
  omega
 .have h1:=J.hops h;have h2:=J.bnd v h;have h3:=J.low v;have h4:(s.h v:Int)*m<=60*m:=qem (by omega) hm;omega
abbrev SC(N:Nat)(ae:Option Addr)(n ce bf bp bo:Nat)(k:Int):List Value:=[.int .i64 (N:Int),.slice ae n ce,.slice (some ⟨bf,0,none⟩) n n,.slice (some ⟨bp,0,none⟩) N N,.slice (some ⟨bo,0,none⟩) N N,.int .i64 k]
def HD(ov:Nat->Int)(N:Nat):List Nat:=(List.range N).filter fun v=>decide (0<ov v)
theorem S5(ov:Nat->Int)(i:Nat):HD ov (i+1)=HD ov i++if 0<ov i then[i]else[]:=by
 unfold HD;rw[qdx,qcp]
 congr 1
 by_cases h:0<ov i <;> simp[h]
theorem Aff(ov:Nat->Int)(i:Nat):(HD ov i).length<=i:=by
 have:=qdz (fun v=>decide (0<ov v)) (List.range i);rw[List.length_range]at this;exact this
abbrev iN(v:Nat):Value := .int .i64 (v:Int)
structure LSt where
 i:Nat
 a:Option Addr
 c:Nat
 full:List Value
section
variable {w:World}{bs:Nat}{N:Nat}{ae:Option Addr}{n ce bf bp bo:Nat}{k:Int}{ov:Nat->Int}
theorem X5(hs:w.heap[bs]?=some (Bl 217 (SC N ae n ce bf bp bo k)))(ho:w.heap[bo]?=some (Bl 2 (BZ ov N)))(hN:N<=1000000:=by omega):
  Ret prog 169 #[ptr bs] w fun v w'=>Fresh w w' 3 1 v ((HD ov N).map iN):=by
 obtain⟨w0,rfl,H⟩:=qE w;have R:=CB ho;refine Au (fn:=f169) func169 U [.pointer (some ⟨bs,0,none⟩)] U ?_;refine Ae (Am U (qA (Ae (Am U (qA (Ax (Ae (A4 U (A9 U ?_)))))))));refine Ah Hn U (Bb BU U ((by rw[Aj hs];rfl)) ?_);refine Be Bf U (Af U (qA (A1 (Bw 8386616 (α:=LSt) (fun t=>[(11,.int .i64 (t.i:Int)),(3,.slice t.a (HD ov t.i).length t.c)]) (fun t w'=>t.i<=N/\OS t.a (HD ov t.i).length t.c 1 t.full ((HD ov t.i).map iN)/\Ctx w0 [] w' (ent t.a 3 t.full)) (fun t=>N - t.i) ⟨0,none,0,[]⟩ U ?_ ?_ ?_))))
 .exact⟨rfl,rfl,trivial⟩
 .exact⟨qaq _,OS.nil,H⟩
 .rintro⟨i,a,c,full⟩ j w ⟨hi,O,H⟩;dsimp only at hi O H;dsimp only;have hpl:=Aff ov i;refine Ae (Bm U U (qA (Ax (Aw _ U ?_ ?_))))
  .intro h1;replace h1:=AM h1;have hgd:(tab ov N)[i]?=some (ov i):=BW (by omega);refine Ay (Aa (Ax (A1 (Ae (Af U (Bp Bf BD U U ?_))))));refine Bb B4 U (((R.ext0 H.ext).fld hgd U (j:=0) U)) ?_;refine Ad U (Ad U (qA (Ae (Af U (C8 U U (qA (Aw _ U ?_ ?_)))))))
   .intro h2;replace h2:=AM h2;have hps:HD ov (i+1)=HD ov i++[i]:=by rw[S5,if_pos h2]
    refine A0 (Ap U (Af U (Cp _ (.int _ _) E5 Gb Xx U U U U H ?_)));rintro b20 w - H;refine Cy (L:=[]) E5 E5 Gb by_3 Xx U U U H O U (by simp[AY]) ?_;rintro a' c' full' w H O;refine Am U (Ab (A8 (Aa (A0 (Az U U ?_)))));refine Af U (qA ?_);exact⟨⟨i+1,a',c',full'⟩,rfl,⟨rfl,by dsimp only;rw[hps,qat];rfl,trivial⟩,⟨by dsimp only;omega,by dsimp only;rw[hps,qat,qav];exact O,H⟩,by dsimp only;omega⟩
   .intro h2;replace h2:=AN h2;have hps:HD ov (i+1)=HD ov i:=by rw[S5,if_neg (by omega),qa0]
    refine Ay (A8 (Aa (A0 (Az U U ?_))));refine Af U (qA ?_);exact⟨⟨i+1,a,c,full⟩,rfl,⟨rfl,by dsimp only;rw[hps];rfl,trivial⟩,⟨by dsimp only;omega,by dsimp only;rw[hps];exact O,H⟩,by dsimp only;omega⟩
  .intro h1;replace h1:=AN h1;refine Bt (An (An (AK (Aa (Ae (Ap U (Am U (qA (A5 (AB (v:=(.slice _ _ _)) U U U ?_))))))))));obtain rfl:i=N:=by omega
   exact Ctx.fresh (L:=[]) H O
def V4(ov d:Nat->Int)(n:Nat)(to:Int):Prop:=(to = -1/\∀u,u<n->¬(ov u<0/\0<=d u))\/∃x:Nat,x<n/\to=x/\ov x<0/\0<=d x/\∀y,y<n->ov y<0->0<=d y->d x<d y\/(d x=d y/\x<=y)
theorem Afg{ov d:Nat->Int}{n:Nat}{a b:Int}(h:V4 ov d n a)(h':V4 ov d n b):a=b:=by
 rcases h with⟨rfl,h⟩|⟨x,hx,rfl,h1,h2,h3⟩
 .rcases h' with⟨rfl,-⟩|⟨y,hy,rfl,k1,k2,-⟩
  .rfl
  .exact absurd ⟨k1,k2⟩ (h y hy)
 .rcases h' with⟨rfl,h'⟩|⟨y,hy,rfl,k1,k2,k3⟩
  .exact absurd ⟨h1,h2⟩ (h' x hx)
  .have h4:=h3 y hy k1 k2;have h5:=k3 x hx h1 h2;omega
theorem X6{od:Nat}{d:Nat->Int}(hs:w.heap[bs]?=some (Bl 217 (SC N ae n ce bf bp bo k)))(ho:w.heap[bo]?=some (Bl 2 (BZ ov N)))(hd:w.heap[od]?=some (Bl 2 (BZ d N)))(hN:N<=1000000:=by omega):
  Ret prog 171 #[ptr bs,.slice (some ⟨od,0,none⟩) N N] w fun v w'=>(∃to:Int,v=.int .i64 to/\V4 ov d N to)/\w=w':=by
 obtain⟨w0,rfl⟩:=qD w;have RO:=CB ho;have RD:=CB hd;refine Au (fn:=f171) func171 U [.pointer (some ⟨bs,0,none⟩),.slice (some ⟨od,0,none⟩) N N] U ?_;refine Ae (Ad U (qA (Ae (Ad U (qA (Ax (Ae (Ap U (Be Bf U ?_)))))))));refine Af U (qA (A1 (Bw 2199023254752 (α:=Nat × Int) (fun t=>[(10,.int .i64 (t.1:Int)),(5,.int .i64 t.2)]) (fun t w'=>w0=w'/\t.1<=N/\V4 ov d t.1 t.2) (fun t=>N - t.1) (0,-1) U ?_ ?_ ?_)))
 .exact⟨rfl,rfl,trivial⟩
 .exact⟨rfl,qaq _,.inl ⟨rfl,fun u h=>absurd h (qbd _)⟩⟩
 .rintro⟨i,to⟩ j w ⟨rfl,hi,hto⟩;dsimp only at hi hto;dsimp only;refine Ae (Bm U U (qA (Ax (Aw _ U ?_ ?_))))
  .intro h1;replace h1:=AM h1;have hgd:(tab d N)[i]?=some (d i):=BW (by omega);have hgo:(tab ov N)[i]?=some (ov i):=BW (by omega);have htd:=Ds d N
   obtain⟨dx,hdx⟩:∃dx:Int,0<=to->∃x:Nat,x<N/\to=x/\(tab d N)[x]?=some dx:=by
    rcases hto with⟨h,_⟩|⟨x,hx,h,_⟩
    .exact⟨0,fun h7=>by omega⟩
    .exact⟨d x,fun _=>⟨x,by omega,h,BW (by omega)⟩⟩
   refine Ay (Aa (Ax (A1 (Ae (Af U (Bg RD Bf BD U U (by omega) ?_))))));refine Bb B4 U ((RD.fld hgd U (j:=0) U)) ?_;refine Ad U (Ad U (qA (Ae (Ci (α:=Unit) 549755781120 (fun _=>[(38,.bool (decide ((ov i<0/\0<=d i)/\(to<0\/d i<dx))))]) (fun _ w'=>w'=w0) U ?_ ?_))))
   .refine A4 U (A9 U (Ah Hn U (Bb BU U ((by rw[Aj hs];rfl)) ?_)));refine Af U (Bp Bf BD U U ?_);refine Bb B4 U ((RO.fld hgo U (j:=0) U)) ?_;refine Bm U U (A2 U (AR 23 U ?_ ?_))
    .intro h1;replace h1:=AM h1;refine Af U (CM U U (AA U (.bool _) U (A2 U (AR 27 U ?_ ?_))))
     .intro h2;replace h2:=AM h2;refine Af U (Bm U U (A2 U (AR 30 U ?_ ?_)))
      .intro h3;replace h3:=AM h3;refine Ag U (Ag U (Ag U (Ag U (Ag U (Ag U (AA U (.bool _) U (AA U (.bool _) U (Ab ?_))))))));exact⟨rfl,(),rfl,⟨qaa Value.bool (by clear hgd hgo;rw[qad];simp_all;try omega),trivial⟩,rfl⟩
      .intro h4;replace h4:=AN h4;refine Af U (Ap U (Af U ?_));obtain⟨x,hx,rfl,hgx⟩:=hdx (by omega);refine Bg RD Bf BD U U (by omega) (Bb B4 U (RD.fld hgx U (j:=0) U) ?_);refine Bm U U (AJ U (.bool _) U (AA U (.bool _) U (Ab ?_)));exact⟨rfl,(),rfl,⟨qaa Value.bool (by clear hgd hgo;rw[qad];simp_all;try omega),trivial⟩,rfl⟩
     .intro h5;replace h5:=AN h5;refine Ag U (Ag U (Ag U (Ag U (Ag U (Ag U (Ag U (Ag U (Ag U (Ag U ?_)))))))));refine AJ U (.bool _) U (Ab ?_);exact⟨rfl,(),rfl,⟨qaa Value.bool (by clear hgd hgo;rw[qad];simp_all;try omega),trivial⟩,rfl⟩
    .intro h6;replace h6:=AN h6;refine Ag U (Ag U (AJ U (.bool _) U (A2 U (Ag U (Ag U (Ag U (Ag U (Ag U (Ag U ?_)))))))));refine Ag U (Ag U (Ag U (Ag U (AJ U (.bool _) U (Ab ?_)))));exact⟨rfl,(),rfl,⟨qaa Value.bool (by clear hgd hgo;rw[qad];simp_all;try omega),trivial⟩,rfl⟩
   rintro - j38 w hw;subst hw;refine Aw _ U ?_ ?_
   .intro h2;have h2:=qba h2;refine A0 (Af U (Ad U (Ab (A8 (Aa (A0 (Az U U ?_)))))));refine Af U (qA ?_);refine⟨(i+1,(i:Int)),rfl,⟨rfl,rfl,trivial⟩,⟨rfl,by dsimp only;omega,.inr ⟨i,by dsimp only;omega,rfl,h2.1.1,h2.1.2,fun y hy k1 k2=>?_⟩⟩,by dsimp only;omega⟩;dsimp only at hy
    by_cases e:y=i
    .subst e;exact .inr ⟨rfl,qam _⟩
    .rcases hto with⟨h,h7⟩|⟨x,hx,h,h3,h4,h5⟩
     .exact absurd ⟨k1,k2⟩ (h7 y (by omega))
     .obtain⟨x',hx',hxx,hdx'⟩:=hdx (by omega);obtain rfl:x'=x:=by omega
      rw[BW hx']at hdx';obtain rfl:=qag hdx';have h6:=h5 y (by omega) k1 k2;have h8:=h2.2;exact .inl (by omega)
   .intro h2;have h2:=qbn h2;refine Ay (A8 (Aa (A0 (Az U U ?_))));refine Af U (qA ?_);refine⟨(i+1,to),rfl,⟨rfl,rfl,trivial⟩,⟨rfl,by dsimp only;omega,?_⟩,by dsimp only;omega⟩
    rcases hto with⟨h,h7⟩|h
    .refine .inl ⟨h,fun u hu hh=>?_⟩;dsimp only at hu
     by_cases e:u=i
     .subst e;exact h2 ⟨hh,.inl (by omega)⟩
     .exact h7 u (by omega) hh
    .obtain⟨x,hx,h,h3,h4,h5⟩:=h;refine .inr ⟨x,by dsimp only;omega,h,h3,h4,fun y hy k1 k2=>?_⟩;dsimp only at hy
     by_cases e:y=i
     .subst e;obtain⟨x',hx',hxx,hdx'⟩:=hdx (by omega);obtain rfl:x'=x:=by omega
      rw[BW hx']at hdx';obtain rfl:=qag hdx'
      by_cases h9:d y<d x'
      .exact absurd ⟨⟨k1,k2⟩,.inr h9⟩ h2
      .omega
     .exact h5 y (by omega) k1 k2
  .intro h1;replace h1:=AN h1;refine Bt (An (An (AK (Aa (Ae (Af U (Ad U (qA (A5 (AB (v:=(.int _ _)) U U U ?_))))))))));obtain rfl:i=N:=by omega
   exact⟨⟨to,rfl,hto⟩,rfl⟩
def Nf(d:Nat->Int)(D:Int)(v:Nat):Int:=if d v<0\/D<d v then D else d v
def I6(p d:Nat->Int)(D:Int)(i v:Nat):Int:=if v<i then p v+Nf d D v else p v
theorem Afh{od:Nat}{d p:Nat->Int}{D:Int}(hs:w.heap[bs]?=some (Bl 217 (SC N ae n ce bf bp bo k)))(hp:w.heap[bp]?=some (Bl 2 (BZ p N)))(hd:w.heap[od]?=some (Bl 2 (BZ d N)))(n1:bs≠bp)(n2:od≠bp)(hD:0<=D/\D<=1152921504606846976)(hpb:∀v,-1152921504606846976<=p v/\p v<=1152921504606846976)(hN:N<=1000000:=by omega):
  Ret prog 174 #[ptr bs,.slice (some ⟨od,0,none⟩) N N,.int .i64 D] w fun v w'=>v=.tuple #[]/\Ctx w [bp] w' [(bp,Bl 2 (BZ (fun v=>p v+Nf d D v) N))]:=by
 obtain⟨w0,rfl⟩:=qD w;have H:=Ctx.start1 hp;have n1':bs∉[bp]:=by rw[qab];exact n1
 have n2':od∉[bp]:=by rw[qab];exact n2
 have RD:=CB hd;refine Au (fn:=f174) func174 U [.pointer (some ⟨bs,0,none⟩),.slice (some ⟨od,0,none⟩) N N,.int .i64 D] U ?_;refine Ae (Ap U (Be Bf U (Af U (qA (A1 ?_)))));have h0:BZ p N=BZ (I6 p d D 0) N:=qbo fun v _=>by unfold I6;rw[if_neg (qbd _)]
 rw[h0]at H;refine Bw 17179868352 (α:=Nat) (fun i=>[(10,.int .i64 (i:Int))]) (fun i w'=>i<=N/\Ctx w0 [bp] w' [(bp,Bl 2 (BZ (I6 p d D i) N))]) (fun i=>N - i) 0 U ?_ ?_ ?_
 .exact⟨rfl,trivial⟩
 .exact⟨qaq _,H⟩
 .rintro i j w ⟨hi,H⟩;refine Ae (Bm U U (qA (Ax (Aw _ U ?_ ?_))))
  .intro h1;replace h1:=AM h1;have hgd:(tab d N)[i]?=some (d i):=BW (by omega);have hgp:(tab (I6 p d D i) N)[i]?=some (p i):=by rw[BW (by omega)];unfold I6;rw[if_neg (Nat.lt_irrefl _)]
   have hbi:=hpb i;have hsucc:∀r,r=Nf d D i->Value.int .i64 (p i+r)=Value.int .i64 (I6 p d D (i+1) i):=fun r hr=>by unfold I6;rw[if_pos (by omega),hr]
   have hoth:∀q,q≠i->Value.int .i64 (I6 p d D (i+1) q)=Value.int .i64 (I6 p d D i q):=fun q hq=>by
    unfold I6
    by_cases h:q<i
    .rw[if_pos h,if_pos (by omega)]
    .rw[if_neg h,if_neg (by omega)]
   refine Ay (Aa (Ax (A1 (Ae (Af U (Bp Bf BD U U ?_))))));refine Bb B4 U (((RD.ext H.ext n2').fld hgd U (j:=0) U)) (Ad U (Ad U (qA (Ax (Ae (Af U (Bm U U (A2 U (AR 17 U ?_ ?_)))))))))
   .intro h1;replace h1:=AM h1;refine Ag U (Ag U (Ag U (AA U (.bool _) U (qA (DB U (A0 (Af U (Ad U (qA ?_)))))))));refine A0 (A4 U (A9 U (Ah Fg U (Bb BU U ((by rw[Aj (H.ext.to hs n1')];rfl)) ?_))));refine Af U (Bp Bf BD U U ?_);refine Bb B4 U (((CB (H.get at0)).fld hgp U (j:=0) U)) (Af U (Az U U ?_));refine Bp Bf BD U U ?_;refine Cl i (fun q => .int .i64 (I6 p d D (i+1) q)) (.int _ _) BD U U U H at0 (by simp) (hsucc _ (by unfold Nf;(rw[if_pos (by omega)];done))).symm (fun q _ hq=>hoth q hq) ?_;rintro w H;refine Ab (A8 (Aa (A0 (Az U U ?_))));refine Af U (qA ?_);exact⟨i+1,rfl,⟨rfl,trivial⟩,⟨by omega,H⟩,by omega⟩
   .intro h2;replace h2:=AN h2;refine Af U (Af U (C8 U U (AJ U (.bool _) U (qA (Aw _ U ?_ ?_)))))
    .intro h3;replace h3:=AM h3;refine A0 (Af U (Ad U (qA (A0 (A4 U (A9 U (Ah Fg U (Bb BU U ((by rw[Aj (H.ext.to hs n1')];rfl)) ?_))))))));refine Af U (Bp Bf BD U U ?_);refine Bb B4 U (((CB (H.get at0)).fld hgp U (j:=0) U)) (Af U (Az U U ?_));refine Bp Bf BD U U ?_;refine Cl i (fun q => .int .i64 (I6 p d D (i+1) q)) (.int _ _) BD U U U H at0 (by simp) (hsucc _ (by unfold Nf;(rw[if_pos (by omega)];done))).symm (fun q _ hq=>hoth q hq) ?_;rintro w H;refine Ab (A8 (Aa (A0 (Az U U ?_))));refine Af U (qA ?_);exact⟨i+1,rfl,⟨rfl,trivial⟩,⟨by omega,H⟩,by omega⟩
    .intro h4;replace h4:=AN h4;refine Ay (Aa (A0 (A4 U (A9 U (Ah Fg U (Bb BU U ((by rw[Aj (H.ext.to hs n1')];rfl)) ?_))))));refine Af U (Bp Bf BD U U ?_);refine Bb B4 U (((CB (H.get at0)).fld hgp U (j:=0) U)) (Af U (Az U U ?_));refine Bp Bf BD U U ?_;refine Cl i (fun q => .int .i64 (I6 p d D (i+1) q)) (.int _ _) BD U U U H at0 (by simp) (hsucc _ (by unfold Nf;(rw[if_neg (by omega)];done))).symm (fun q _ hq=>hoth q hq) ?_;rintro w H;refine Ab (A8 (Aa (A0 (Az U U ?_))));refine Af U (qA ?_);exact⟨i+1,rfl,⟨rfl,trivial⟩,⟨by omega,H⟩,by omega⟩
  .intro h1;replace h1:=AN h1;refine Bt (An (An (AK (CV U U ?_))));obtain rfl:i=N:=by omega
   have h9:BZ (I6 p d D i) i=BZ (fun v=>p v+Nf d D v) i:=qbo fun v hv=>by unfold I6;rw[if_pos (qa5.1 hv)]
   rw[h9]at H;exact⟨rfl,H⟩
end
def Kx(g:Gr)(cap x:Nat->Int)(k:Nat):List Ar:=((List.range k).filter fun a=>decide (0<CI cap x a)).map fun a=>(g.u a,g.v a,g.c a)
theorem Aan(g:Gr)(cap x:Nat->Int)(k:Nat):Kx g cap x (k+1)=Kx g cap x k++if 0<CI cap x k then[(g.u k,g.v k,g.c k)]else[]:=by
 unfold Kx;rw[qdx,qcp,qav]
 congr 1
 by_cases h:0<CI cap x k <;> simp[h]
theorem Afi{g:Gr}{cap x:Nat->Int}{k m:Nat}(h:k<=m):∀a∈Kx g cap x k,a∈Kx g cap x m:=fun a ha=>by
 obtain⟨b,hb,rfl⟩:=qah.1 ha;obtain⟨h1,h2⟩:=qbe.1 hb;exact qah.2 ⟨b,qbe.2 ⟨qa5.2 (by have:=qa5.1 h1;omega),h2⟩,rfl⟩
theorem J3{w:World}{bs:Nat}{t:TypeId}{N:Nat}{ae:Option Addr}{n ce bf bp bo:Nat}{k:Int}(h:w.heap[bs]?=some (Bl t (SC N ae n ce bf bp bo k))):∀j v,[Value.int .i64 (N:Int),.slice ae n ce][j]?=some v->w.cell? ⟨bs,0+j,none⟩=some v:=fun j v hv=>by
 rw[Aj h,qaz]
 match j,hv with
 |0,hv=>exact hv
 |1,hv=>exact hv
theorem Ajz{x:Nat->Int}{n i:Nat}(h:i<n):flE (tab x n) i=x i:=by
 unfold flE;exact Bv (BW h)
theorem QD{N:Nat}{es:List Ed}{x:Nat->Int}(hw:Cu (N:Int) es (tab x es.length)=true){k:Nat}(hk:k<2*es.length) :
  Gz (N:Int) es (k:Int)=(((grE (N:Int) es).u k:Int),((grE (N:Int) es).v k:Int),(grE (N:Int) es).c k)/\LY (N:Int) es (tab x es.length) (k:Int)=CI (Cs es) x k/\(grE (N:Int) es).u k<N/\(grE (N:Int) es).v k<N /\ -1000<=(grE (N:Int) es).c k/\(grE (N:Int) es).c k<=1000/\0<=CI (Cs es) x k/\CI (Cs es) x k<=4503599627370496:=by
 obtain⟨hl,hr,hin⟩:=C5 hw;obtain⟨e,he,hE,q1,q2,q3,q4,q5,q6⟩:=Ud hr hk;obtain⟨e',xx,he',hx,hro,r1,r2,r3⟩:=Ue hw hk;obtain rfl:e'=e:=qag (he'.symm.trans he);obtain⟨hxk,rfl⟩:=Q8 hx;have hce:Cs es (k / 2)=e'.cap:=by unfold Cs;rw[Bv he]
 have hge:(grE (N:Int) es).f (k / 2)=e'.f.toNat/\(grE (N:Int) es).t (k / 2)=e'.t.toNat/\(grE (N:Int) es).co (k / 2)=e'.cost:=by
  refine⟨?_,?_,?_⟩ <;> (show _=_;unfold grE;dsimp only;rw[Bv he])
 rw[hE,hro];unfold Gr.u Gr.v Gr.c CI OT;rw[hge.1,hge.2.1,hge.2.2,hce];unfold IL at q1 q2 q3 q4 q5 q6 |-
 by_cases hp:k % 2=1
 .have hp2:¬k % 2=0:=by omega
  simp only[if_pos hp]at q1 q2 q3 q4 q5 q6 |-;simp only[if_neg hp2];exact⟨by rw[qcx q1,qcx q3],trivial,by omega,by omega,q5,q6,r1,by omega⟩
 .have hp2:k % 2=0:=by omega
  simp only[if_neg hp]at q1 q2 q3 q4 q5 q6 |-;simp only[if_pos hp2];exact⟨by rw[qcx q1,qcx q3],trivial,by omega,by omega,q5,q6,by omega,by omega⟩
section
variable {w:World}{bs:Nat}{N:Nat}{ae:Option Addr}{ce bf bp bo:Nat}{k:Int}{es:List Ed}{x p:Nat->Int}
theorem Aj0(hs:w.heap[bs]?=some (Bl 217 (SC N ae es.length ce bf bp bo k)))(Re:Rd w ae 4 CO es)(hen:es≠[]->(adr ae).block≠bp)(hf:w.heap[bf]?=some (Bl 2 (BZ x es.length)))(hp:w.heap[bp]?=some (Bl 2 (BZ p N)))(n1:bs≠bp)(n2:bf≠bp)(hw:Cu (N:Int) es (tab x es.length)=true){p0:Nat->Int}(hF:Fine (grE (N:Int) es) (Cs es) x p0) :
  Ret prog 203 #[ptr bs] w fun v w'=>v=.tuple #[]/\Ctx w [bp] w' [(bp,Bl 2 (BZ (Fa (Kx (grE (N:Int) es) (Cs es) x (2*es.length)) N fun _=>0) N))]:=by
 obtain⟨w0,rfl⟩:=qD w;have H:=Ctx.start1 hp;have n1':bs∉[bp]:=by rw[qab];exact n1
 have n2':bf∉[bp]:=by rw[qab];exact n2
 obtain⟨hwl,hr,-⟩:=C5 hw;obtain⟨hN1,hN40,hn200,-⟩:=CS hr;have hI:I64 (N:Int):=by unfold I64;omega
 obtain⟨g,hg⟩:=qD (grE (N:Int) es);obtain⟨cap,hcap⟩:=qD (Cs es)
 have hat:∀{a:Nat},a<2*es.length->Gz (N:Int) es (a:Int)=((g.u a:Int),(g.v a:Int),g.c a)/\LY (N:Int) es (tab x es.length) (a:Int)=CI cap x a/\g.u a<N/\g.v a<N /\ -1000<=g.c a/\g.c a<=1000/\0<=CI cap x a/\CI cap x a<=4503599627370496:=fun ha=>by
  rw[hg,hcap];exact QD hw ha
 rw[<-hg,<-hcap]at hF |-;obtain⟨A,hA⟩:=qD (Kx g cap x (2*es.length));have hgE:g.E=es.length:=by rw[hg];rfl
 have hAm:∀b∈A,b.1<N/\b.2.1<N /\ -1000<=b.2.2:=fun b hb=>by
  rw[hA]at hb;obtain⟨a,ha,rfl⟩:=qah.1 hb;obtain⟨-,-,h1,h2,h3,-⟩:=hat (qa5.1 (qbe.1 ha).1);exact⟨h1,h2,h3⟩
 have hfea:Fea A p0:=by rw[hA,<-hgE];exact Vx hF
 have hfe2:=Xy hfea fun a ha=>⟨(hAm a ha).1,(hAm a ha).2.1⟩;have hfb:=YH (A:=A) (m:=1000) (by omega) (fun a ha=>(hAm a ha).2.2) N
 have hbnd:∀r k v,-40000<=(Kx g cap x k).foldl Jw (Fa A r fun _=>0) v\/2*es.length<k:=fun r k v=>by
  rcases qap (2*es.length) k with h|h
  .exact .inr h
  .refine .inl ?_;have h1:=TV (A:=Kx g cap x k) (p:=Fa A r fun _=>0) (f:=DD A N) (fun a ha=>hfe2 a (by rw[hA];exact Afi h a ha)) (fun v=>L9 hfe2 (fun v=>by have:=MX A v (qaq N);exact this) r v) v;have h2:=hfb v;have h3:(N:Int)*1000<=40000:=by omega
   omega
 have hbnd2:∀r k v,(Kx g cap x k).foldl Jw (Fa A r fun _=>0) v<=0:=fun r k v=>by
  refine qbh (MZ _ _ v) ?_
  induction r with
  |zero=>exact qa3 _
  |succ r ih=>exact qbh (MZ _ _ v) ih
 rw[<-hA];refine Au (fn:=f203) func203 U [.pointer (some ⟨bs,0,none⟩)] U ?_;refine Ae (A4 U (A9 U (Ah Fg U (Bb BU U ((by rw[Aj hs];rfl)) ?_))));refine Sj U Bf Fh U (by simp[AY]) U H at0 (by simp) ?_;rintro w H;refine qA ?_
 have hz:over (BZ p N) 0 (List.replicate N [Value.int .i64 0]).flatten=BZ (Fa A 0 fun _=>0) N:=by
  rw[_root_.Go.GV.over_all (by simp)];show _=(List.range N).map fun _=>Value.int .i64 0;rw[<-Fo];simp
 rw[hz]at H;refine Ae (A4 U (A9 U (Ah Hm U (Ah Ev U (Bb Cc U ((by rw[Aj (H.ext.to hs n1')];rfl)) ?_)))));refine Af U (qA (A1 (Bw 151115727451828646772860 (α:=Nat) (fun r=>[(16,.int .i64 (r:Int))]) (fun r w'=>r<=N/\Ctx w0 [bp] w' [(bp,Bl 2 (BZ (Fa A r fun _=>0) N))]) (fun r=>N - r) 0 U ?_ ?_ ?_)))
 .exact⟨rfl,trivial⟩
 .exact⟨qaq _,H⟩
 .rintro r j w ⟨hr2,H⟩;refine Ae (Bm U U (qA (Ax (Aw _ U ?_ ?_))))
  .intro h1;replace h1:=AM h1;refine Ay (Aa (Ax (A1 (Ae (A4 U (A9 U (Ah Ff U (Bb BU U ((by rw[Aj (H.ext.to hs n1')];rfl)) ?_))))))));refine Be Bf U (D0 U U ?_);refine Af U (qA (A1 (Bw 75557863725914306642044 (α:=Nat) (fun a=>[(24,.int .i64 (a:Int))]) (fun a w'=>a<=2*es.length/\Ctx w0 [bp] w' [(bp,Bl 2 (BZ ((Kx g cap x a).foldl Jw (Fa A r fun _=>0)) N))]) (fun a=>2*es.length - a) 0 U ?_ ?_ ?_)))
   .exact⟨rfl,trivial⟩
   .exact⟨qaq _,H⟩
   .rintro a j2 w ⟨ha2,H⟩;refine Ae (Bm U U (qA (Ax (Aw _ U ?_ ?_))))
    .intro h2;replace h2:=AM h2;have ha:a<2*es.length:=by omega
     obtain⟨hE,hR,q1,q2,q3,q4,q5,q6⟩:=hat ha;obtain⟨un,hun⟩:=qD (g.u a);obtain⟨vn,hvn⟩:=qD (g.v a);obtain⟨co,hco⟩:=qD (g.c a);obtain⟨q,hq⟩:=qD ((Kx g cap x a).foldl Jw (Fa A r fun _=>0));have hb1:∀v,-40000<=q v/\q v<=0:=fun v=>by rw[hq];exact⟨(hbnd r a v).resolve_right (by omega),hbnd2 r a v⟩
     have hsucc:(Kx g cap x (a+1)).foldl Jw (Fa A r fun _=>0)=if 0<CI cap x a then Jw q (un,vn,co)else q:=by
      rw[Aan,qdy,<-hq]
      split
      .rw[hun,hvn,hco];rfl
      .rfl
     rw[<-hq]at H;rw[<-hun,<-hvn,<-hco]at hE;have hE1:(Gz (N:Int) es (a:Int)).1=un:=by rw[hE]
     have hE2:(Gz (N:Int) es (a:Int)).2.1=vn:=by rw[hE]
     have hE3:(Gz (N:Int) es (a:Int)).2.2=co:=by rw[hE]
     rw[<-hun]at q1;rw[<-hvn]at q2;rw[<-hco]at q3 q4;have b1:=hb1 un;have b2:=hb1 vn;have hgu:(tab q N)[un]?=some (q un):=BW q1;have hgv:(tab q N)[vn]?=some (q vn):=BW q2;have hne:(es≠[]->(adr ae).block∉[bp]):=fun h=>by rw[qab];exact hen h
     have hes:es≠[]:=fun h=>by rw[h]at ha;simp at ha
     refine Ay (Aa (Ax (A1 (Ae (Af U (Ad U (qA (Ae (A4 U (A9 U ?_))))))))));refine Ah Hm U (C9 _ CE Ct U U ((J3 (H.ext.to hs n1'))) ?_);refine Af U (Al qB (Ub (N:Int) ae es.length ce es _ (Re.ext H.ext (hne hes)) U hI (a:Int)) U ?_);rintro v w ⟨rfl,hx33⟩;replace H:=H.call hx33;rw[hE1,hE2,hE3];refine Cr U (AH U U (AH U U (AH U U (Ad U (Ad U (Ad U (qA (Ae (A4 U ?_)))))))));refine A9 U (Ah Fg U (Bb BU U ((by rw[Aj (H.ext.to hs n1')];rfl)) ?_));refine Af U (Bp Bf BD U U ?_);refine Bb B4 U (((CB (H.get at0)).fld hgu U (j:=0) U)) (Af U (Az U U ?_));refine Ad U (qA (Ej 19 Br U U ?_));refine AX U (BE U (AZ U (A6 Fg U (BX BU U (by rintro _ rfl;exact((by rw[Aj (H.drew.ext.to hs n1')];rfl))) ?_))))
     refine AX U (Bi Bf BD U U ?_);refine BX B4 U (by rintro _ rfl;exact(((CB (H.drew.get at0)).fld hgv rfl (j:=0) rfl))) ?_;refine LO U U (CW U (DK 55 U ?_ ?_))
     .intro h3;replace h3:=AM h3;refine BE U (AZ U (A6 Hm U (G8 _ CE Ct U U (by rintro _ rfl;exact((J3 (H.drew.ext.to hs n1')))) ?_)));refine BE U (AZ U (A6 Ff U (BX BU U (by rintro _ rfl;exact((by rw[Aj (H.drew.ext.to hs n1')];rfl))) ?_)));refine AX U (BS ?_);replace H:=H.drew;refine Al qB (Uc (N:Int) ae (some ⟨bf,0,none⟩) es.length ce es.length es.length es (tab x es.length) _ (Re.ext H.ext (hne hes)) U hI (CB (H.ext.to hf n2')) (Ds _ _) (a:Int)) U ?_;rintro v w ⟨rfl,hx65⟩;replace H:=H.call hx65;rw[hR];refine C8 U U (AA U (.bool _) U (qA (Aw _ U ?_ ?_)))
      .intro h4;replace h4:=AM h4;refine A0 (A4 U (A9 U (Ah Fg U (Bb BU U ((by rw[Aj (H.ext.to hs n1')];rfl)) ?_))));refine Af U (Af U (Bp Bf BD U U ?_));refine Cl vn (fun z => .int .i64 (upd q vn (q un+co) z)) (.int _ _) BD U U U H at0 (by simp) (hk:=q2) (by rw[Dw,Int.add_comm]) (fun z _ hz=>by rw[E6 hz]) ?_;rintro w H;refine Ab (A8 (Aa (A0 (Az U U ?_))));refine Af U (qA ?_);refine⟨a+1,rfl,⟨rfl,trivial⟩,⟨by omega,?_⟩,by omega⟩;rw[hsucc,if_pos h4];unfold Jw;rw[if_pos (by dsimp only;omega)];exact H
      .intro h4;replace h4:=AN h4;refine Ay (A8 (Aa (A0 (Az U U ?_))));refine Af U (qA ?_);refine⟨a+1,rfl,⟨rfl,trivial⟩,⟨by omega,?_⟩,by omega⟩;rw[hsucc,if_neg (by omega)];exact H
     .intro h3;replace h3:=AN h3;refine A3 U (A3 U (A3 U (A3 U (A3 U (A3 U (A3 U (A3 U (A3 U (BS ?_)))))))));replace H:=H.drew;refine Ag U (Ag U (AJ U (.bool _) U (qA (FE U (Ay (A8 (Aa (A0 (Az U U ?_)))))))));refine Af U (qA ?_);refine⟨a+1,rfl,⟨rfl,trivial⟩,⟨by omega,?_⟩,by omega⟩;rw[hsucc]
      split
      .unfold Jw;rw[if_neg (by dsimp only;omega)];exact H
      .exact H
    .intro h2;replace h2:=AN h2;refine Bt (An (An (AK (A8 (Aa (A0 (Az U U ?_)))))));refine Af U (qA ?_);obtain rfl:a=2*es.length:=by omega
     refine⟨r+1,rfl,⟨rfl,trivial⟩,⟨by omega,?_⟩,by omega⟩;rw[<-hA]at H;exact H
  .intro h1;replace h1:=AN h1;refine Bt (An (An (AK (CV U U ?_))));obtain rfl:r=N:=by omega
   exact⟨rfl,H⟩
end
theorem Afj{g:Gr}{cap x p q:Nat->Int}(h:Fine g cap x p)(hq:Fea (Kx g cap x (2*g.E)) q):Fine g cap x q:=Ae0 h hq
theorem QE{g:Gr}(hg:g.Ok){cap x p q:Nat->Int}(h:Fine g cap x p)(hq:∀v,v<g.N->q v=p v):Fine g cap x q :=
 ⟨h.in',fun a ha hr=>by
  have:=h.fit a ha hr;unfold Gr.len at this |-
  rw[hq _ (hg.u ha),hq _ (hg.v ha)];exact this⟩
def X7(p:Nat->Int)(n:Nat):Bool:=(List.range n).all fun v=>decide (-1073741824<=p v/\p v<=1073741824)
theorem S6{p:Nat->Int}{n:Nat}:X7 p n=true↔∀v,v<n -> -1073741824<=p v/\p v<=1073741824:=by
 unfold X7;rw[qaw];exact⟨fun h v hv=>qba (h v (qa5.2 hv)),fun h v hv=>qan (h v (qa5.1 hv))⟩
def narF(es:List Ed)(n:Nat)(x p:Nat->Int):Nat->Int:=if X7 p n=true then p else Fa (Kx (grE (n:Int) es) (Cs es) x (2*es.length)) n fun _=>0
section
variable {w:World}{bs:Nat}{N:Nat}{ae:Option Addr}{ce bf bp bo:Nat}{k:Int}{es:List Ed}{x p:Nat->Int}
theorem Aao(hs:w.heap[bs]?=some (Bl 217 (SC N ae es.length ce bf bp bo k)))(Re:Rd w ae 4 CO es)(hen:es≠[]->(adr ae).block≠bp)(hf:w.heap[bf]?=some (Bl 2 (BZ x es.length)))(hp:w.heap[bp]?=some (Bl 2 (BZ p N)))(n1:bs≠bp)(n2:bf≠bp)(hw:Cu (N:Int) es (tab x es.length)=true)(hF:Fine (grE (N:Int) es) (Cs es) x p) :
  Ret prog 175 #[ptr bs] w fun v w'=>v=.tuple #[]/\∃p':Nat->Int,p'=narF es N x p/\Fine (grE (N:Int) es) (Cs es) x p'/\(∀v,v<N -> -1073741824<=p' v/\p' v<=1073741824)/\Ctx w [bp] w' [(bp,Bl 2 (BZ p' N))]:=by
 obtain⟨w0,rfl⟩:=qD w;have H:=Ctx.start1 hp;have R:=CB hp;obtain⟨hwl,hr,-⟩:=C5 hw;obtain⟨hN1,hN40,hn200,-⟩:=CS hr;refine Au (fn:=f175) func175 U [.pointer (some ⟨bs,0,none⟩)] U ?_;refine Ae (A4 U (A9 U (Ah Fg U (Bb BU U ((by rw[Aj hs];rfl)) ?_))));refine Be Bf U (Af U (qA (A1 (Bw 4193800 (α:=Nat) (fun i=>[(9,.int .i64 (i:Int))]) (fun i w'=>w0=w'/\i<=N/\∀v,v<i -> -1073741824<=p v/\p v<=1073741824) (fun i=>N - i) 0 U ?_ ?_ ?_))))
 .exact⟨rfl,trivial⟩
 .exact⟨rfl,qaq _,fun v h=>absurd h (qbd _)⟩
 .rintro i j w ⟨rfl,hi,hb⟩;refine Ae (Bm U U (qA (Ax (Aw _ U ?_ ?_))))
  .intro h1;replace h1:=AM h1;have hgp:(tab p N)[i]?=some (p i):=BW (by omega);refine Ay (Aa (Ax (A1 (Ae (Bp Bf BD U U ?_)))));refine Bb B4 U ((R.fld hgp U (j:=0) U)) ?_;refine Ad U (qA (Ae (Ci (α:=Unit) 516096 (fun _=>[(18,.bool (decide (p i < -1073741824\/1073741824<p i)))]) (fun _ w'=>w'=w0) U ?_ ?_)))
   .refine Af U (Bm U U (A2 U (AR 15 U ?_ ?_)))
    .intro h1;replace h1:=AM h1;refine Ag U (Ag U (AA U (.bool _) U (Ab ?_)));exact⟨rfl,(),rfl,⟨qaa Value.bool (by clear hgp;rw[qad];simp_all;try omega),trivial⟩,rfl⟩
    .intro h2;replace h2:=AN h2;refine Af U (C8 U U (AJ U (.bool _) U (Ab ?_)));exact⟨rfl,(),rfl,⟨qaa Value.bool (by clear hgp;rw[qad];simp_all;try omega),trivial⟩,rfl⟩
   rintro - j18 w hw;subst hw;refine Aw _ U ?_ ?_
   .intro h2;refine Ae (A4 U (Al qB (Aj0 hs Re hen hf hp n1 n2 hw hF) U ?_));rintro v w ⟨rfl,H⟩;refine qA (A5 (AF (Av (Av (AF (Gl U U ?_))))))
    have hnf:narF es N x p=Fa (Kx (grE (N:Int) es) (Cs es) x (2*es.length)) N fun _=>0:=if_neg fun h=>by
     have h3:=S6.1 h i (by omega);have h4:=qba h2;omega
    rw[<-hnf]at H;obtain⟨g,hg⟩:=qD (grE (N:Int) es);have hgE:g.E=es.length:=by rw[hg];rfl
    rw[<-hg]at hF hnf |-
    have hAm:∀b∈Kx g (Cs es) x (2*es.length),b.1<N/\b.2.1<N /\ -1000<=b.2.2:=fun b hb=>by
     obtain⟨a,ha,rfl⟩:=qah.1 hb;obtain⟨-,-,h1,h2,h3,-⟩:=QD hw (qa5.1 (qbe.1 ha).1);rw[hg];exact⟨h1,h2,h3⟩
    have hfea:Fea (Kx g (Cs es) x (2*es.length)) p:=by rw[<-hgE];exact Vx hF
    refine⟨rfl,_,rfl,?_,fun v _=>?_,H⟩ <;> rw[hnf]
    .have h7:=Aad hfea fun a ha=>⟨(hAm a ha).1,(hAm a ha).2.1⟩;rw[<-hgE]at h7 |-;exact Afj hF h7
    .have h7:=Aev hfea (fun a ha=>⟨(hAm a ha).1,(hAm a ha).2.1⟩) (m:=1000) (fun a ha=>(hAm a ha).2.2) N v;omega
   .intro h2;have h2:=qbn h2;refine Ay (A8 (Aa (A0 (Az U U ?_))));refine Af U (qA ?_);refine⟨i+1,rfl,⟨rfl,trivial⟩,⟨rfl,by omega,fun v hv=>?_⟩,by omega⟩
    by_cases e:v=i
    .subst e;omega
    .exact hb v (by omega)
  .intro h1;replace h1:=AN h1;refine Bt (An (An (AK (CV U U ?_))));obtain rfl:i=N:=by omega
   exact⟨rfl,p,(if_pos (S6.2 hb)).symm,hF,hb,H⟩
end
theorem V5(s by':Value)(ob:Option Addr)(on oc:Nat)(bs:Nat)(v:Int)(w:World)(hs:s=ptr bs)(hb:by'=.slice ob on oc):Ret prog 172 #[s,by',.int .i64 v] w fun r w'=>∃b3 b4 b5,r=.func (.func 200) #[] #[ptr b4,ptr b5,ptr b3]/\w'.heap[b3]?=some (Bl 215 [ptr bs])/\w'.heap[b4]?=some (Bl 235 [.slice ob on oc])/\w'.heap[b5]?=some (Bl 3 [.int .i64 v])/\w.heap.size<=b3/\w.heap.size<=b4/\w.heap.size<=b5/\b5≠b3/\b5≠b4/\Ext [] w w':=by
 subst hs hb;obtain⟨w0,rfl,H⟩:=qE w;refine Au (fn:=f172) func172 U [.pointer (some ⟨bs,0,none⟩),.slice ob on oc,.int .i64 v] U ?_;refine Ae (Bu _ (.pointer _) U U H ?_);rintro b3 w - H;refine Bu _ (.slice _ _ _) U U H ?_;rintro b4 w - H;refine Bu _ (.int _ _) U U H ?_;rintro b5 w - H;refine Dd U .nilFunc U (qA (Ae (Cq [.pointer _,.pointer _,.pointer _] U (Dd U (.func _ _ _) U ?_))));refine qA (A5 (AB (v:=(.func _ _ _)) U U U ?_));have h3:=H.own _ (qac at2);have h4:=H.own _ (qac at1);have h5:=H.own _ (qac at0);exact⟨_,_,_,rfl,H.get at2,H.get at1,H.get at0,h3.elim (fun h=>by cases h) id,h4.elim (fun h=>by cases h) id,h5.elim (fun h=>by cases h) id,H.ne at0 at2 (by decide),H.ne at0 at1 (by decide),H.ext⟩
def byO(by':Nat->Int)(v:Nat):Option Nat:=if by' v = -1 then none else some (by' v).toNat
def Afk(g:Gr)(a:Nat):List Value:=[.int .i64 (a:Int),.int .i64 (g.u a:Int)]
structure BackK(b3 b4 b5 bs ob:Nat)(N:Nat)(ae:Option Addr)(ce bf bp bo:Nat)(k:Int)(es:List Ed)(by':Nat->Int)(M:Mt)(w:World):Prop where
 h4:w.heap[b4]?=some (Bl 235 [.slice (some ⟨ob,0,none⟩) N N])
 h3:w.heap[b3]?=some (Bl 215 [ptr bs])
 hs:w.heap[bs]?=some (Bl 217 (SC N ae es.length ce bf bp bo k))
 ho:w.heap[ob]?=some (Bl 3 (BZ by' N))
 Re:Rd w ae 4 CO es
 nm:¬M b5
theorem V6{g:Gr}{cap x p:Nat->Int}{s:Lb}{by':Nat->Option Nat}(hB:Bys g cap x p s by'):∀{k v:Nat},s.d v ≠ -1->s.h v=k->(Ex by' g k v).length=k
 |0,_,_,_=>rfl
 |k+1,v,hd,hk=>by
  obtain⟨a,h1,h2,h3⟩:=hB.2 v hd (by omega);have hh:=h2.h;rw[h3,hk]at hh;rw[(Ik (g:=g) (k:=k) h1).1,qa9,V6 hB h2.du (by omega)]
theorem V7{b3 b4 b5 bs ob:Nat}{N:Nat}{ae:Option Addr}{ce bf bp bo:Nat}{kk:Int}{es:List Ed}{by':Nat->Int}{x p:Nat->Int}{s:Lb}(hw:Cu (N:Int) es (tab x es.length)=true)(hB:Bys (grE (N:Int) es) (Cs es) x p s (byO by'))(hby:∀v,by' v = -1\/∃a:Nat,by' v=(a:Int)/\a<2*es.length){k v:Nat}(hv:v<N)(hd:s.d v ≠ -1)(hk:s.h v=k) :
  Yr prog 200 #[ptr b4,ptr b5,ptr b3] [b5] (fun M w=>BackK b3 b4 b5 bs ob N ae ce bf bp bo kk es by' M w) ((Ex (byO by') (grE (N:Int) es) k v).map (Afk (grE (N:Int) es))) (fun w=>w.heap[b5]?=some (Bl 3 [.int .i64 (v:Int)])):=by
 intro l w hS J E hJ0 hJs hEs hK hY;obtain⟨M0,hJ0⟩:=hJ0;obtain⟨w0,rfl⟩:=qD w;have hr:=(C5 hw).2.1;obtain⟨hN1,hN40,hn200,-⟩:=CS hr;have hI:I64 (N:Int):=by unfold I64;omega
 obtain⟨g,hg⟩:=qD (grE (N:Int) es)
 have hat:∀{a:Nat},a<2*es.length->Gz (N:Int) es (a:Int)=((g.u a:Int),(g.v a:Int),g.c a)/\g.u a<N:=fun ha=>by
  rw[hg];exact⟨(QD hw ha).1,(QD hw ha).2.2.1⟩
 rw[<-hg]at hB hY |-;have hlen:((Ex (byO by') g k v).map (Afk g)).length=k:=by rw[qal,V6 hB hd hk]
 refine Au (fn:=f200) func200 U [.func (.yield l) #[] #[],.pointer (some ⟨b4,0,none⟩),.pointer (some ⟨b5,0,none⟩),.pointer (some ⟨b3,0,none⟩)] U ?_;refine A1 (Bw 1073741792 (α:=Nat × Nat) (fun _=>[]) (fun t w'=>t.1<=k/\(∃M,J t.1 M w')/\w'.heap[b5]?=some (Bl 3 [.int .i64 (t.2:Int)])/\t.2<N/\s.d t.2 ≠ -1/\s.h t.2=k - t.1/\(Ex (byO by') g k v).drop t.1=Ex (byO by') g (k - t.1) t.2) (fun t=>k - t.1) (0,v) U ?_ ?_ ?_)
 .exact trivial
 .exact⟨qaq _,⟨M0,hJ0⟩,hS,hv,hd,hk,rfl⟩
 .rintro⟨i,u⟩ j w ⟨hi,⟨M,hJ⟩,hb5,hun,hdu,hhu,hdrop⟩;dsimp only at hi hJ hb5 hun hdu hhu hdrop;dsimp only;have KK:=(hK _ _ _ hJ).2;obtain⟨w1,rfl⟩:=qD w;have H:=Ctx.start1 hb5;have hgb:(tab by' N)[u]?=some (by' u):=BW hun;refine Ax (Ae (Bb GA U ((by rw[Aj KK.h4];rfl)) ?_));refine AG Cc U H at0 U (Bp E5 Gb U U ?_);refine Bb Cc U (((CB KK.ho).fld hgb U (j:=0) U)) ?_;refine CM U U (qA (Aw _ U ?_ ?_))
  .intro h1;replace h1:=AM h1;have hne:byO by' u≠none:=by unfold byO;rw[if_neg (by omega)];exact fun h=>by cases h
   have hh0:s.h u≠0:=fun h=>hne (hB.1 u (.inr h));obtain⟨a,ha,hW,hva⟩:=hB.2 u hdu hh0
   have hba:by' u=(a:Int):=by
    unfold byO at ha;rw[if_neg (by omega)]at ha;have:=qag ha;omega
   have ha2:a<2*es.length:=by
    rcases hby u with h|⟨a',h,h7⟩
    .omega
    .omega
   obtain⟨hE,hu2⟩:=hat ha2;rw[hba]at hgb;obtain⟨u2,hu2e⟩:=qD (g.u a);obtain⟨v2,hv2e⟩:=qD (g.v a);obtain⟨c2,hc2e⟩:=qD (g.c a);rw[<-hu2e,<-hv2e,<-hc2e]at hE;rw[<-hu2e]at hu2;have hE1:(Gz (N:Int) es (a:Int)).1=u2:=by rw[hE]
   have hE2:(Gz (N:Int) es (a:Int)).2.1=v2:=by rw[hE]
   have hE3:(Gz (N:Int) es (a:Int)).2.2=c2:=by rw[hE]
   have hki:k - i=(k - (i+1))+1:=by omega
   have hps:=(Ik (g:=g) (k:=k - (i+1)) ha).1;rw[<-hki,<-hdrop,<-hu2e]at hps
   have hgi:(Ex (byO by') g k v)[i]?=some a:=by
    have:=qaa (·[0]?) hps
    simpa using this
   have hdrop2:(Ex (byO by') g k v).drop (i+1)=Ex (byO by') g (k - (i+1)) u2:=by
    have:=qaa List.tail hps
    simpa using this
   refine Ay (Aa (A1 (Ae (Bb GA U ((by rw[Aj KK.h4];rfl)) ?_))));refine AG Cc U H at0 U (Bp E5 Gb U U ?_);refine Bb Cc U (((CB KK.ho).fld hgb U (j:=0) U)) (Ad U (qA (Ae (Bb EZ U ((by rw[Aj KK.h3];rfl)) ?_))));refine A9 U (Ah Hm U (C9 _ CE Ct U U ((J3 KK.hs)) ?_));refine Af U (Al qB (Ub (N:Int) ae es.length ce es _ KK.Re U hI (a:Int)) U ?_);rintro r w ⟨rfl,hx21⟩;replace H:=H.call hx21;rw[hE1,hE2,hE3];refine Cr U (AH U U (AH U U (AH U U (Cb (.int _ _) Gb U U U H at0 (by(simp;done)) ?_))));rintro w H;refine qA ?_;have hJ1:=hJs _ _ _ _ hJ H.ext;have hY1:=hY i (Afk g a) M w (by rw[qa1,hgi];rfl) hJ1;have hb51:=H.get at0;have hnm:=KK.nm;have hwv:Afk g a=[.int .i64 (a:Int),.int .i64 (u2:Int)]:=by rw[hu2e];rfl
   rw[hwv]at hY1;refine Ae (C7 (.func _ _ _) U ?_);refine Af U (AG Cc U H at0 U (Hl (vs:=[.int .i64 (a:Int),.int .i64 (u2:Int)]) U hY1 U ?_));rintro u' w hu';obtain⟨bb,rfl,hu1,hu0⟩:∃bb,u'=.bool bb/\(bb=true->(∃M,J (i+1) M w)/\w.heap[b5]?=some (Bl 3 [.int .i64 (u2:Int)]))/\(bb=false->E w):=hu'.elim (fun h=>⟨true,h.1,fun _=>let ⟨M',h1,h2⟩:=h.2;⟨⟨M',h1⟩,h2.to hb51 hnm⟩,fun h=>by cases h⟩) (fun h=>⟨false,h.1,(fun h=>by cases h),fun _=>h.2⟩);refine BP U (qA (Aw _ U ?_ ?_))
   .intro h2;replace h2:=BM h2;refine A5 (AF (Av (AF (Gl U U ?_))));exact .inr (hu0 (by simpa using h2))
   .intro h2;replace h2:=BN h2;refine Ay (A8 (Aa ?_));obtain⟨hJ2,hb52⟩:=hu1 (by simpa using h2);have hh:=hW.h;rw[hva,<-hu2e]at hh;exact⟨(i+1,u2),rfl,trivial,⟨by dsimp only;omega,hJ2,hb52,hu2,by dsimp only;rw[hu2e];exact hW.du,by dsimp only;omega,hdrop2⟩,by dsimp only;omega⟩
  .intro h1;replace h1:=AN h1
   have hh0:s.h u=0:=by
    rcases qc8 (s.h u)with h|h
    .exact h
    .obtain⟨a,ha,-,-⟩:=hB.2 u hdu (by omega);exfalso;unfold byO at ha
     rcases hby u with h7|⟨a',h7,-⟩
     .rw[if_pos h7]at ha;cases ha
     .omega
   refine Bt (An (An (AK (CV U U ?_))));obtain rfl:i=k:=by omega
   exact .inl ⟨M,by rw[hlen];exact hJ⟩
end Go.Proofs.YtffclglpjlcojaaGreat
