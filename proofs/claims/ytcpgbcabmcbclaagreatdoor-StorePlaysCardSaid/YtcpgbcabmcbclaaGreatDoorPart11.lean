/- Part 11 of the proof. -/
import Derived.Test.YtcpgbcabmcbclaaGreatDoorPart10
set_option maxRecDepth 20000
set_option maxHeartbeats 4000000
namespace Go.Proofs.YtcpgbcabmcbclaaGreatDoor
open Go.GV Go.Proofs.Tryz
attribute [local irreducible] AA W Wq Wt
def Wn(kf kt k:Byt):Bool:=(!decide (Lib.compareBytes k kf = -1)) && (decide (kt.length=0) || decide (Lib.compareBytes k kt = -1))
def Ve(l:List (Byt × Sv))(kf kt:Byt)(ks:List Byt):List Pr:=(ks.filter (Wn kf kt)).map fun k=>(k,L4 l k)
def Qj(l:List (Byt × Sv))(kf kt:Byt):List Pr:=Ve l kf kt (CF (mv l))
theorem ZY{l:List (Byt × Sv)}{kf kt k:Byt}{ks:List Byt}:Ve l kf kt (ks++[k])=Ve l kf kt ks++if Wn kf kt k=true then[(k,L4 l k)]else[]:=by
 unfold Ve;rw[qbn,qay]
 by_cases h:Wn kf kt k=true
 .rw[if_pos h,qbk,if_pos h];rfl
 .rw[if_neg h,qbk,if_neg h];rfl
theorem JZ:∀{q:List Im},(q.flatMap Gz).length=2*q.length
 | []=>rfl
 |x::q=>by rw[qcc,qan,JZ (q:=q),qav];simp[Gz];omega
def Mk(wK:World)(e:List (Nat × Obj)):Mut:=fun x=>x<wK.heap.size\/x∈e.map (·.1)
theorem Ka{wK w1 wb w:World}{e9 e28:List (Nat × Obj)}{a:Option Addr}{l:Byt}(h:Rdx w1 (Mk wK e9) a l)(hx:Ext [] w1 wb)(H:Ctx wb (e9.map (·.1)) w e28):Rdx w (Mk wK e28) a l:=by
 have h1:=h.call hx;refine⟨Rdx.read h1 H.ext fun y hy => .inr hy,?_⟩
 rcases Rd.lt8 h1.1 with h2|h2
 .exact .inl h2
 .refine h.2.imp id fun h3 h4=>?_
  rcases h4 with h4|h4
  .exact h3 (.inl h4)
  .obtain⟨y,hy,he⟩:=qah.1 h4
   rcases H.own y hy with h5|h5
   .rw[he]at h5;exact h3 (.inr h5)
   .omega
theorem Mw{wK w1 wb w:World}{e9 e28:List (Nat × Obj)}{m:Im}(h:m.Ok w1 (Mk wK e9))(hx:Ext [] w1 wb)(H:Ctx wb (e9.map (·.1)) w e28):m.Ok w (Mk wK e28) :=
 ⟨Ka h.k hx H,Ka h.v hx H,h.kc,h.vc⟩
structure Scj(wK:World)(l:List (Byt × Sv))(kf kt:Byt)(i:Nat)(a9:Option Addr)(n9 c9:Nat)(f9:List Value)(qs:List Im)(w':World):Prop where
 ext:Ext [] wK w'
 blk:∀y∈ent a9 68 f9,w'.heap[y.1]?=some y.2/\wK.heap.size<=y.1
 os:OS a9 n9 c9 2 f9 (qs.flatMap Gz)
 eq:qs.map (fun m=>prI m.it)=Ve l kf kt ((CF (mv l)).take i)
 ok:∀m∈qs,m.Ok w' (Mk wK (ent a9 68 f9))
theorem Yg{w:World}{bs m1 m2 gen:Nat}{n root:Int}{vd vj vp vt:Value}{o1:Obj}{M:Mut}{l:List (Byt × Sv)}(hs:w.heap[bs]?=some (Bl CU (CN vd vj vp vt gen root m1 m2 n false)))(h1m:w.heap[m1]?=some o1)(K:KvAt w M l o1)(hnd:((mv l).map (·.1)).Nodup)(hsz:l.length<=100000)(fa ta:Option Addr)(fc tc:Nat)(kf kt:Byt)(Rf:Rd w fa 1 B8 kf)(Rt:Rd w ta 1 B8 kt) :
  Ret prog 20 #[ptr bs,.slice fa kf.length fc,.slice ta kt.length tc] w fun v w'=>∃a c,v=.tuple #[.slice a (Qj l kf kt).length c,.int .i64 0]/\Prs w' (Old w) a (Qj l kf kt).length c (Qj l kf kt)/\Ext [] w w':=by
 obtain⟨wI,rfl,H⟩:=qE w;refine A8 (fn:=f20) func20 U [ptr bs,.slice fa kf.length fc,.slice ta kt.length tc] U (Ad (Ak U (Ac U (qA (Ar (Ad (An U (Aj qB (JX hs) U ?_))))))));rintro v w ⟨rfl,rfl⟩;refine Ac U (qA (Ad (Ae U (Be U U (qA (Av _ U ?_ ?_))))))
 .intro h1;replace h1:=Bv h1;exact absurd U h1
 .intro h1;replace h1:=Bw h1;refine Ap (Aa (Ad (Ak U (qA (Ar (Ad (An U (A7 U (Af HH U (Bd MJ U ((by rw[Aq hs];rfl)) ?_))))))))));refine Aj qB (Ae0 (some m1) _) U ?_;rintro v w ⟨rfl,rfl⟩;replace H:=H.alloc (Bl 91 [.map (some m1)]);refine Aj qB (Yf (H.get at0) (H.ext.to h1m (by simp)) K.m hnd (by simpa using hsz) (fun p hp=>by obtain⟨q,hq,rfl⟩:=qah.1 hp;exact(K.few q hq).1)) U ?_;rintro v w ⟨aK,cK,rfl,RK,hcK,-,hx22⟩;replace H:=H.call hx22;have hxK:=H.ext;clear H;refine AO RX U (Ae U (qA (AB ?_)));obtain⟨wK,rfl⟩:=qD w;have hkl:(CF (mv l)).length<=100000:=by rw[Mu];simpa using hsz
  refine B6 144115188059081216 (α:=Nat × Option Addr × Nat × Nat × List Value × List Im) (fun s=>[(24,.int .i64 (s.1:Int)),(9,.slice s.2.1 s.2.2.1 s.2.2.2.1)]) (fun s w'=>s.1<=(CF (mv l)).length/\s.2.2.1<=s.1/\Scj wK l kf kt s.1 s.2.1 s.2.2.1 s.2.2.2.1 s.2.2.2.2.1 s.2.2.2.2.2 w') (fun s=>(CF (mv l)).length - s.1) (0,none,0,0,[],[]) U ?_ ?_ ?_
  .exact⟨rfl,rfl,trivial⟩
  .exact⟨qak _,qae _,Ext.refl _ _,(fun y hy=>by cases hy),OS.nil,rfl,fun m hm=>by cases hm⟩
  .rintro⟨i,a9,n9,c9,f9,qs⟩ j w1 ⟨hi,hn9,S⟩;dsimp only at hi hn9 S;dsimp only;have H:=Ctx.start w1 [];refine Ad (Bj U U (qA (Ar (Av _ U ?_ ?_))))
   .intro h2;replace h2:=AR h2;obtain⟨k,hk⟩:=AP (l:=CF (mv l)) (i:=i);have hI1:=hxK.trans S.ext;have hsn:=ZY (l:=l) (kf:=kf) (kt:=kt) (k:=k) (ks:=(CF (mv l)).take i);rw[<-Bp hk]at hsn;refine Ap (Aa (Ar (AB (Ad (AY (RK.ext0 S.ext) RX sz_9 U U (hn:=by rfl) ?_)))));refine Bd ag_9 U ((RK.ext0 S.ext).one (f:=str) hk) ?_;refine IM U U (qA (Ad (BG (α:=Unit) 8795824586752 (fun _=>[(42,.bool (Wn kf kt k))]) (fun _ w'=>w1=w') U ?_ ?_)))
    .refine Ce U (Ah U (Kk AX Hm FA U (Rf.ext0 hI1) ?_));refine Agg U U U ?_;refine AF U (AQ 32 U ?_ ?_)
     .intro h1;refine Ah U (AO AX U (BA U U (AF U (AQ 36 U ?_ ?_))))
      .intro h2;replace h2:=AR h2;refine Ag U (Ag U (Ag U (Ag U (AN U (.bool _) U (AN U (.bool _) U (Ab ?_))))));exact⟨rfl,(),rfl,⟨qab Value.bool (by unfold Wn;simp_all),trivial⟩,rfl⟩
      .intro h3;replace h3:=AU h3;refine Ce U (Ah U (Kk AX Hm FA U (Rt.ext0 hI1) ?_));refine Agf U U U (AM U (.bool _) U (AN U (.bool _) U (Ab ?_)));exact⟨rfl,(),rfl,⟨qab Value.bool (by unfold Wn;simp_all),trivial⟩,rfl⟩
     .intro h4;refine Ag U (Ag U (Ag U (Ag U (Ag U (Ag U (Ag U (Ag U (Ag U (AM U (.bool _) U ?_)))))))));refine Ab ?_;exact⟨rfl,(),rfl,⟨qab Value.bool (by unfold Wn;simp_all),trivial⟩,rfl⟩
    rintro - j42 w rfl;refine Av _ U ?_ ?_
    .intro h3;rw[if_pos h3]at hsn
     obtain⟨A9,C9,hz,hR9,hlen9⟩:∃A9 C9,((BJ l k).map Sv.enc).getD (.slice none 0 0)=.slice A9 (L4 l k).length C9/\Rd wI A9 1 B8 (L4 l k)/\(L4 l k).length<=128:=by
      unfold L4
      cases hq:BJ l k with
      |none=>exact⟨none,0,rfl,Rd.nil,by simp⟩
      |some s=>exact⟨s.a,s.c,rfl,(K.ok _ (EV hq)).1.1,(K.few _ (EV hq)).2⟩
     refine Au (Ah U (Ce U (KU (l:=k) U FA AX Hm U ?_)));rintro b45 c45 w hb45 hc45 hx45 R45;replace H:=H.call hx45;refine An U (A7 U (Af HH U (Bd MJ U ((by rw[Aq ((hI1.trans H.ext).to hs (by simp))];rfl)) ?_)));refine Ce U (RA (m:=mv l) (n:=k) U NK (Fy FA) Sj U U (Ctx.start1 ((hI1.trans H.ext).to h1m (by simp))) at0 K.m ?_);rw[Fh (f:=Sv.enc),hz];refine Aj qB (JN A9 C9 _ (L4 l k) _ ((hR9.ext0 hI1).ext0 H.ext) U) U ?_;rintro v wb ⟨F52,-⟩;have hsz45:=H.size;obtain⟨a52,c52,rfl,R52,hc52,hn52⟩:=Fresh.newB F52;replace R45:=R45.ext0 F52.ext;have Hb:=H.call F52.ext;obtain⟨im,him⟩:=qD (⟨some ⟨b45,0,none⟩,c45,a52,c52,⟨k,L4 l k,0⟩⟩:Im);have hblk:∀y∈ent a9 68 f9,wb.heap[y.1]?=some y.2:=(fun y hy=>Hb.ext.to (S.blk y hy).1 (by simp));clear H;have H:=Ctx.startL hblk KR;refine B5 (Gz ⟨some ⟨b45,0,none⟩,c45,a52,c52,⟨k,L4 l k,0⟩⟩) U1 Fd ?_
     rw[<-him];refine BI (Gz im) (.agg _) Cb CR Fd U U U U H ?_;rintro b54 w - H;refine BL (L:=[]) Cb Cb CR NC Fd U U U H S.os U (Gl im) ?_;clear H;rintro a28 c28 f28 w2 H O28;refine Ak U (Ab (AE (Aa (Au (Ay U U ?_)))));refine Ae U (qA ?_);have hltm:∀y∈ent a9 68 f9,y.1<w1.heap.size:=fun y hy=>Al (S.blk y hy).1;have hKs:=S.ext.size
     have himk:im.Ok wb (Mk wK (ent a9 68 f9)):=by
      subst him;refine⟨⟨R45,.inr fun h=>?_⟩,⟨R52,hn52.imp id fun h5 h=>?_⟩,hc45,hc52⟩
      .rcases h with h|h
       .have h6:b45<wK.heap.size:=h;omega
       .obtain⟨y,hy,he⟩:=qah.1 h;have h6:=hltm y hy;have h7:y.1=b45:=he;omega
      .rcases h with h|h
       .have h6:(adr a52).block<wK.heap.size:=h;omega
       .obtain⟨y,hy,he⟩:=qah.1 h;have h6:=hltm y hy;have h7:y.1=(adr a52).block:=he;omega
     refine⟨(i+1,a28,n9+1,c28,f28,qs++[im]),rfl,⟨rfl,rfl,trivial⟩,⟨by dsimp only;omega,by dsimp only;omega,⟨?_,?_,?_,?_,?_⟩⟩,by dsimp only;omega⟩
     .exact(S.ext.trans Hb.ext).then H.ext fun y hy=>by
       obtain⟨z,hz,he⟩:=qah.1 hy;rw[<-he];exact .inr (S.blk z hz).2
     .intro y hy;refine⟨H.blk y hy,?_⟩
      rcases H.own y hy with h|h
      .obtain⟨z,hz,he⟩:=qah.1 h;rw[<-he];exact(S.blk z hz).2
      .have:=Hb.size;omega
     .dsimp only;rw[qbc,qb0];exact O28
     .dsimp only;rw[qay,S.eq,hsn,him];rfl
     .intro m hm;dsimp only at hm |-
      rcases qat.1 hm with hm|hm
      .exact Mw (S.ok m hm) Hb.ext H
      .rw[qaa.1 hm];exact Mw himk (Ext.refl _ _) H
    .intro h3;rw[if_neg (by simp[h3]),qa3]at hsn;refine Ap (AE (Aa (Au (Ay U U ?_))));refine Ae U (qA ?_);exact⟨(i+1,a9,n9,c9,f9,qs),rfl,⟨rfl,rfl,trivial⟩,⟨by dsimp only;omega,by dsimp only;omega,S.ext,S.blk,S.os,by dsimp only;rw[S.eq,hsn],S.ok⟩,by dsimp only;omega⟩
   .intro h2;replace h2:=AU h2;obtain rfl:i=(CF (mv l)).length:=by omega
    have he:=S.eq;rw[qbf]at he
    have hnq:n9=(Qj l kf kt).length:=by
     have h5:=S.os.llen;rw[JZ]at h5;have h6:qs.length=(Qj l kf kt).length:=by rw[<-qai (f:=fun m:Im=>prI m.it),he];rfl
     omega
    have hKI:=hxK.size;refine B2 (Aw (Aw (AZ (Aa (Ad (Ah U (Ak U (Ac U (qA (A6 (Cs (v1:=(.slice _ _ _)) (v2:=(.int _ _)) U U U U ?_)))))))))));refine⟨a9,c9,by rw[<-hnq],⟨⟨qs,OS.rd S.os (fun y hy=>(S.blk y hy).1) (fun _ _=>rfl) (by decide),?_,he,fun m hm=>(S.ok m hm).weak fun x hx => .inl (qau hx hKI)⟩,rfl,by rw[<-hnq];exact S.os.le⟩,hxK.trans S.ext⟩
    cases ha:a9 with
    |none =>
     left;have h5:=S.os.none' ha;have h6:=S.os.le;have h7:=S.os.llen;rw[JZ]at h7;exact qa4 (by omega)
    |some q =>
     right;intro h;have h5:=(S.blk (q.block,Bl 68 f9) (by rw[ha];exact qaa.2 rfl)).2;have h6:q.block<wI.heap.size:=h;dsimp only at h5;omega
theorem Kx{α:Type}{k:Byt}:∀{m:List (Byt × α)},(m.map (·.1)).Nodup->((Gr m k).map (·.1)).Nodup/\k∉(Gr m k).map (·.1)
 | [],h=>⟨h,by simp[Gr]⟩
 |p::m,h=>by
  rw[qaz,qck]at h;unfold Gr
  split
  .rename_i he
   exact⟨h.2,he ▸ h.1⟩
  .rename_i he
   obtain⟨h1,h2⟩:=Kx (k:=k) h.2;refine⟨?_,?_⟩
   .rw[qaz,qck];refine⟨fun h3=>h.1 ?_,h1⟩;obtain⟨q,hq,e⟩:=qah.1 h3;exact qah.2 ⟨q,JW hq,e⟩
   .rw[qaz,qac];rintro(h3|h3)
    .exact he h3.symm
    .exact h2 h3
theorem Nr{kv:Kvl}{x:Wr}(h:(kv.map (·.1)).Nodup):((LF kv x).map (·.1)).Nodup:=by
 obtain⟨h1,h2⟩:=Kx (k:=x.k) h;unfold LF
 split
 .exact h1
 .have h3:BJ (Gr kv x.k) x.k=none:=by
   rw[<-qdf,FW]
   simpa using h2
  rw[FT h3,qay,qdm];refine⟨h1,by simp,fun a ha b hb=>?_⟩;simp only[qaz,qbo,qaa]at hb;rintro rfl;exact h2 (hb ▸ ha)
def LI(kv:Kvl)(kf kt:Byt):List Pr:=((CF kv).filter (Wn kf kt)).map fun k=>(k,(BJ kv k).getD [])
theorem Acn(l:List (Byt × Sv))(k:Byt):L4 l k=(BJ (EE l) k).getD []:=by rw[LH];rfl
theorem Ajy(l:List (Byt × Sv)):CF (mv l)=CF (EE l):=by simp[CF,EE,qbi,qcr]
theorem Yh(l:List (Byt × Sv))(kf kt:Byt):Qj l kf kt=LI (EE l) kf kt:=by
 unfold Qj Ve LI;rw[Ajy];simp only[Acn]
section
variable {w0 w w':World}{p:Sp}{A:Dev}{R:Rj}{x:Sx}{F:Mut}
theorem Wo(O:Sok w0 w p A R x F)(a:Option Addr)(c:Nat)(k:Byt)(Rk:Rd w a 1 B8 k) :
  Ret prog 26 #[ptr p.bs,.slice a k.length c] w fun v w'=>∃a' c',v=.tuple #[.slice a' ((BJ x.kv k).getD []).length c',.bool (BJ x.kv k).isSome,.int .i64 0]/\Rd w' a' 1 B8 ((BJ x.kv k).getD [])/\Sok w0 w' p A R x F/\Ext [] w w':=by
 obtain⟨l,o1,o2,hF,K,hk,hM⟩:=O.ex;refine(Al7 (hF.blk _ (qaf ..)) (hF.blk (p.m1,o1) (by simp[Sp.blk])) K a c k Rk).mono fun v w' ⟨a',c',hv,hR,hx⟩=>?_;rw[Acn,hk]at hv hR;refine⟨a',c',?_,hR,O.call hx,hx⟩;rw[hv,<-hk,LH,qe6]
theorem Vf(O:Sok w0 w p A R x F):Ret prog 25 #[ptr p.bs] w fun v w'=>v=.int .i64 x.n/\w=w':=by
 obtain⟨l,o1,o2,hF,-⟩:=O.ex;exact Aem (hF.blk _ (qaf ..))
theorem Yi(O:Sok w0 w p A R x F)(hnd:(x.kv.map (·.1)).Nodup)(hsz:x.kv.length<=100000)(fa ta:Option Addr)(fc tc:Nat)(kf kt:Byt)(Rf:Rd w fa 1 B8 kf)(Rt:Rd w ta 1 B8 kt) :
  Ret prog 20 #[ptr p.bs,.slice fa kf.length fc,.slice ta kt.length tc] w fun v w'=>∃a c,v=.tuple #[.slice a (LI x.kv kf kt).length c,.int .i64 0]/\Prs w' (Old w) a (LI x.kv kf kt).length c (LI x.kv kf kt)/\Sok w0 w' p A R x F/\Ext [] w w':=by
 obtain⟨l,o1,o2,hF,K,hk,hM⟩:=O.ex
 have h1:((mv l).map (·.1)).Nodup:=by
  have h2:(mv l).map (·.1)=(EE l).map (·.1):=by simp[EE,qbi,qcr]
  rw[h2,hk];exact hnd
 have h3:l.length<=100000:=by
  have:(EE l).length=l.length:=qai ..
  rw[hk]at this;omega
 refine(Yg (hF.blk _ (qaf ..)) (hF.blk (p.m1,o1) (by simp[Sp.blk])) K h1 h3 fa ta fc tc kf kt Rf Rt).mono fun v w' ⟨a,c,hv,hP,hx⟩=>?_;rw[Yh,hk]at hv hP;exact⟨a,c,hv,hP,O.call hx,hx⟩
theorem ZZ(O:Sok w0 w p A R x F):Own w0 w p.bd A F/\SG A.B.length A R x.V:=⟨O.jone.own,O.good⟩
end
theorem Aco{wK w1 wb w:World}{e9 e28:List (Nat × Obj)}{m:Wm}(h:m.Ok w1 (Mk wK e9))(hx:Ext [] w1 wb)(H:Ctx wb (e9.map (·.1)) w e28):m.Ok w (Mk wK e28) :=
 ⟨Ka h.k hx H,Ka h.v hx H,h.kc,h.vc⟩
theorem Wm.Ok.weak{w:World}{M M':Mut}{m:Wm}(h:m.Ok w M)(hM:∀x,M' x->M x):m.Ok w M':=⟨⟨h.k.1,h.k.2.imp id fun h2 h3=>h2 (hM _ h3)⟩,⟨h.v.1,h.v.2.imp id fun h2 h3=>h2 (hM _ h3)⟩,h.kc,h.vc⟩
theorem Amk(d:Bool):XL d<256:=by cases d <;> decide
theorem Ae1{X B:Byt}{f p:Nat}(hp:X.length=p)(hf:f<256):Gh (X++(Bq f 1++B)) (p:Int) 1=.tuple #[.int .u64 (f:Int),.int .i64 ((p:Int)+1),.int .i64 0]:=by
 have hl:(X++(Bq f 1++B)).length=p+1+B.length:=by simp[Ba,hp];omega
 have he:Di (X++(Bq f 1++B)) (p:Int) 1=0:=by
  unfold Di;rw[hl,qal (show(0:Int)<=(p:Int)by omega),qal (show(p:Int)<=((p+1+B.length:Nat):Int)by omega),qal (show(1:Int)<=((p+1+B.length:Nat):Int) - (p:Int)by omega)];rfl
 have hd:((X++(Bq f 1++B)).drop p).take 1=Bq f 1:=by
  subst hp;rw[List.drop_left,qcs (by rw[Ba];decide),qa6 (by rw[Ba];decide)]
 have hn:numN (Bq f 1)=f:=by rw[Fm];exact qba (by simpa using hf)
 unfold Gh;rw[he];show Value.tuple #[.int .u64 (numN (((X++(Bq f 1++B)).drop (p:Int).toNat).take 1):Int),_,_]=_;rw[qbp,hd,hn]
theorem Acp{L:List Wr}{i:Nat}{x:Wr}(h:L[i]?=some x):opB L=opB (L.take i)++(Bq (XL x.d) 1++(Bq x.k.length 2++(x.k++(Bq x.v.length 2++(x.v++opB (L.drop (i+1))))))):=by
 obtain⟨hlt,he⟩:=qap.1 h;have h1:L=L.take i++(x::L.drop (i+1)):=by rw[<-he,<-qdz hlt,qbl]
 conv=>lhs;rw[h1]
 unfold opB;rw[qbc,qcc];simp[wrB]
structure Wcj(wK:World)(L:List Wr)(i:Nat)(a9:Option Addr)(n9 c9:Nat)(f9:List Value)(qs:List Wm)(w':World):Prop where
 ext:Ext [] wK w'
 blk:∀y∈ent a9 56 f9,w'.heap[y.1]?=some y.2/\wK.heap.size<=y.1
 os:OS a9 n9 c9 3 f9 (qs.flatMap CE)
 eq:qs.map (·.x)=L.take i
 ok:∀m∈qs,m.Ok w' (Mk wK (ent a9 56 f9))
theorem Apq{w:World}(a:Option Addr)(c n:Nat)(L:List Wr)(R:Rd w a 1 B8 (opB L))(hn:(opB L).length=n)(hc:n<=c)(hL:∀x∈L,x.Few)(hl:L.length<=1000) :
  Ret prog 64 #[.slice a n c] w fun v w'=>∃a' c',v=.slice a' L.length c'/\Wrs w' (Old w) a' L.length c' L/\Ext [] w w':=by
 obtain⟨wI,rfl⟩:=qD w;have hOL:=Om hL;refine A8 (fn:=f64) func64 U [.slice a n c] U ?_;refine Ad (Ak U (qA (Ar (Ad (Ac U (qA (AB (B6 4611686018427387900 (α:=Nat × Option Addr × Nat × Nat × List Value × List Wm) (fun s=>[(3,.int .i64 ((opB (L.take s.1)).length:Int)),(2,.slice s.2.1 s.2.2.1 s.2.2.2.1)]) (fun s w'=>s.1<=L.length/\s.2.2.1=s.1/\Wcj wI L s.1 s.2.1 s.2.2.1 s.2.2.2.1 s.2.2.2.2.1 s.2.2.2.2.2 w') (fun s=>L.length - s.1) (0,none,0,0,[],[]) U ?_ ?_ ?_))))))))
 .exact⟨rfl,rfl,trivial⟩
 .exact⟨qak _,rfl,Ext.refl _ _,(fun y hy=>by cases hy),OS.nil,rfl,fun m hm=>by cases hm⟩
 .rintro⟨i,a9,n9,c9,f9,qs⟩ j w1 ⟨hi,hn9,S⟩;dsimp only at hi hn9 S;dsimp only;have H:=Ctx.start w1 [];refine Ar (Ad (Ae U (Ah U (AO AX U (Bj U U (qA (Av _ U ?_ ?_)))))))
  .intro h1;replace h1:=AR h1
   have hiL:i<L.length:=by
    by_cases h:i<L.length
    .exact h
    .rw[qa6 (by omega)]at h1;omega
   obtain⟨x,hx⟩:=AP (l:=L) (i:=i) (h:=hiL);have hcut:=Acp hx;have hxf:=hL x (qad hx);unfold Wr.Few at hxf;obtain⟨p,hp⟩:=qD ((opB (L.take i)).length);rw[<-hp];have hlen:=qab List.length hcut;simp only[qan,Ba]at hlen;have hv1:=Ae1 (X:=opB (L.take i)) (B:=Bq x.k.length 2++(x.k++(Bq x.v.length 2++(x.v++opB (L.drop (i+1)))))) hp.symm (Amk x.d);rw[<-hcut]at hv1;have hcut2:opB L=(opB (L.take i)++(Bq (XL x.d) 1++(Bq x.k.length 2++x.k)))++(Bq x.v.length 2++(x.v++opB (L.drop (i+1)))):=by rw[hcut];simp
   have ht1:tbO (opB L) (p+1)=some (x.k,p+1+2+x.k.length):=by rw[hcut,<-qa1];exact NV (by simp[Ba,hp]) (by omega)
   have ht2:tbO (opB L) (p+1+2+x.k.length)=some (x.v,p+1+2+x.k.length+2+x.v.length):=by rw[hcut2];exact NV (by simp[Ba,hp];omega) (by omega)
   refine Ap (Aa (AB (Ad (Ah U (Ae U (Aj qB (He a c _ (opB L) (p:Int) 1 _ (R.ext0 S.ext) hn (by omega)) U ?_))))));rintro v w ⟨rfl,hx18⟩;replace H:=H.call hx18;rw[hv1];refine AW U (Ai U U (Ai U U (Ai U U (Ac U (Ac U (Ac U (qA (Ad (Ah U ?_)))))))));refine Ae U (Ah U (AO AX U (V8 U U U ?_)));rw[show min ((p:Int)+1) (n:Int)=((p+1:Nat):Int)by omega];refine Aj qB (Hg a c n (opB L) (p+1) _ ((R.ext0 S.ext).ext0 H.ext) hn hc) U ?_;rintro v w ⟨ka,k,kc,nx,e,rfl,hx28,Xk,hkc,-,-,h0,h1e⟩;have e0:e=0:=Classical.byContradiction (fun h=>by have h5:=(h1e h).1;rw[ht1]at h5;cases h5);subst e0;have hk2:=h0 rfl;rw[ht1]at hk2;obtain⟨rfl,rfl⟩:x.k=k/\p+1+2+x.k.length=nx:=(by injection hk2 with h;injection h with h2 h3;exact⟨h2,h3⟩);have hs28:=H.size;replace H:=H.call hx28
   refine AW U (Ai U U (Ai U U (Ai U U (Ak U (Ac U (Ac U (qA (Ad (Ah U ?_)))))))));refine Ae U (Ah U (AO AX U (V8 U U U ?_)));rw[show min (((p+1+2+x.k.length:Nat)):Int) (n:Int)=((p+1+2+x.k.length:Nat):Int)by omega];refine Aj qB (Hg a c n (opB L) (p+1+2+x.k.length) _ ((R.ext0 S.ext).ext0 H.ext) hn hc) U ?_;rintro v w ⟨va,vl,vc,nx2,e2,rfl,hx38,Xv,hvc,-,-,h0v,h1v⟩;have e0:e2=0:=Classical.byContradiction (fun h=>by have h5:=(h1v h).1;rw[ht2]at h5;cases h5);subst e0;have hv2:=h0v rfl;rw[ht2]at hv2;obtain⟨rfl,rfl⟩:x.v=vl/\p+1+2+x.k.length+2+x.v.length=nx2:=(by injection hv2 with h;injection h with h2 h3;exact⟨h2,h3⟩);have hs38:=H.size;replace Xk:=Xk.call hx38;replace H:=H.call hx38
   refine AW U (Ai U U (Ai U U (Ai U U (Ak U (Ac U (Ac U (qA (Ar (Ad (BG (α:=Unit) 4499201580859392 (fun _=>[(51,.bool (false))]) (fun _ w'=>w=w') U ?_ ?_))))))))))
   .refine Ae U (Be U U (AF U (AQ 44 U ?_ ?_)))
    .intro h1;replace h1:=Bv h1;refine Ag U (Ag U (AN U (.bool _) U (AF U (Ag U (Ag U (AN U (.bool _) U (Ab ?_)))))));exact⟨rfl,(),rfl,⟨qab Value.bool (by simp_all),trivial⟩,rfl⟩
    .intro h2;replace h2:=Bw h2;refine Ae U (Be U U (AM U (.bool _) U (AF U (AQ 48 U ?_ ?_))))
     .intro h3;replace h3:=Bv h3;refine Ag U (Ag U (AN U (.bool _) U (Ab ?_)));exact⟨rfl,(),rfl,⟨qab Value.bool (by simp_all),trivial⟩,rfl⟩
     .intro h4;replace h4:=Bw h4;refine Ae U (Be U U (AM U (.bool _) U (Ab ?_)));exact⟨rfl,(),rfl,⟨qab Value.bool (by rfl),trivial⟩,rfl⟩
   rintro - j51 w rfl;obtain⟨wb,rfl⟩:=qD w;have Hb:=H;clear H;obtain⟨im,him⟩:=qD (⟨ka,kc,va,vc,x⟩:Wm);have hblk:∀y∈ent a9 56 f9,wb.heap[y.1]?=some y.2:=fun y hy=>Hb.ext.to (S.blk y hy).1 (by simp);have H:=Ctx.startL hblk KR;refine Bz U (Ap (Aa (Ad (Ah U (Ah U (Ah U (Ae U (BA U U ?_))))))));rw[show decide ((XL x.d:Int)=1)=x.d by(cases x.d <;> rfl)];refine B5 (CE ⟨ka,kc,va,vc,x⟩) PW F7 ?_;rw[<-him];refine BI (CE im) (.agg _) Cn Cw F7 U U U U H ?_;rintro b59 w - H;refine BL (L:=[]) Cn Cn Cw Aa8 F7 U U U H S.os U (FV im) ?_;clear H;rintro a28 c28 f28 w2 H O28;refine Ak U (qA (Au (Ae U (Ac U (Ab (AE (Aa ?_)))))));have hltm:∀y∈ent a9 56 f9,y.1<w1.heap.size:=fun y hy=>Al (S.blk y hy).1;have hKs:=S.ext.size
   have hmk:∀q,Mk wI (ent a9 56 f9) q->q<w1.heap.size:=fun q h=>by
    rcases h with h|h
    .have h6:q<wI.heap.size:=h;omega
    .obtain⟨y,hy,he⟩:=qah.1 h;have h6:=hltm y hy;have h7:y.1=q:=he;omega
   have himk:im.Ok wb (Mk wI (ent a9 56 f9)):=by
    subst him;exact⟨⟨Xk.1,Xk.2.imp id fun h5 h=>h5 (qau (hmk _ h) hs28)⟩,⟨Xv.1,Xv.2.imp id fun h5 h=>h5 (qau (hmk _ h) hs38)⟩,hkc,hvc⟩
   have hnext:p+1+2+x.k.length+2+x.v.length=(opB (L.take (i+1))).length:=by rw[XM hx,qan,Wd,<-hp];omega
   rw[hnext];refine⟨(i+1,a28,n9+1,c28,f28,qs++[im]),rfl,⟨rfl,rfl,trivial⟩,⟨by dsimp only;omega,by dsimp only;omega,⟨?_,?_,?_,?_,?_⟩⟩,by dsimp only;omega⟩
   .exact(S.ext.trans Hb.ext).then H.ext fun y hy=>by
     obtain⟨z,hz,he⟩:=qah.1 hy;rw[<-he];exact .inr (S.blk z hz).2
   .intro y hy;refine⟨H.blk y hy,?_⟩
    rcases H.own y hy with h|h
    .obtain⟨z,hz,he⟩:=qah.1 h;rw[<-he];exact(S.blk z hz).2
    .have:=Hb.size;omega
   .dsimp only;rw[qbc,qb0];exact O28
   .dsimp only;rw[qay,S.eq,Bp hx,him];rfl
   .intro m hm;dsimp only at hm |-
    rcases qat.1 hm with hm|hm
    .exact Aco (S.ok m hm) Hb.ext H
    .rw[qaa.1 hm];exact Aco himk (Ext.refl _ _) H
  .intro h1;replace h1:=AU h1
   have hiL:i=L.length:=by
    by_cases h:i<L.length
    .obtain⟨x,hx⟩:=AP (l:=L) (i:=i) (h:=h);have hlen:=qab List.length (Acp hx);simp only[qan,Ba]at hlen;omega
    .omega
   subst hiL;have he:=S.eq;rw[qbf]at he;refine B2 (Aw (Aw (AZ (Aa (Ad (Ah U (Ak U (qA (A6 (AG (v:=(.slice _ _ _)) U U U ?_))))))))));subst hn9;have hq:qs.length=L.length:=by rw[<-he,qai]
   refine⟨a9,c9,rfl,⟨⟨qs,OS.rd S.os (fun y hy=>(S.blk y hy).1) (fun _ _=>rfl) (by decide),?_,he,fun m hm=>(S.ok m hm).weak fun x hx => .inl hx⟩,rfl,S.os.le⟩,S.ext⟩
   cases ha:a9 with
   |none =>
    left;have h5:=S.os.none' ha;have h6:=S.os.le;exact qa4 (by omega)
   |some q =>
    right;intro h;have h5:=(S.blk (q.block,Bl 56 f9) (by rw[ha];exact qaa.2 rfl)).2;have h6:q.block<wI.heap.size:=h;dsimp only at h5;omega
theorem Qk(P:List Nat)(x:Nat):((P.map BN)[x]?=some 1\/(P.map BN)[x]?=some 2)↔(P[x]?=some 1\/P[x]?=some 2):=by
 rw[qas]
 cases P[x]? with
 |none=>simp
 |some s =>
  simp only[qbd,qbb];unfold BN
  split
  .omega
  .split
   .omega
   .exact Iff.rfl
theorem TreeAt.settle{fr:Nat}{A:Dev}{P:List Nat}{root:Int}{L:List Pr}(T:TreeAt fr A P root L):TreeAt fr A (P.map BN) root L:=by
 obtain⟨S,h1,h2,h3⟩:=T.lies;exact⟨⟨S,h1,h2,fun x=>(h3 x).trans (Qk P x).symm⟩,T.rise,T.ok⟩
theorem Ky{P:List Nat}(hok:∀s∈P,s<=3):∀k,k<=P.length->(Hj P k).length+DD ((P.map BN).take k)=k
 |0,_=>rfl
 |k+1,hk=>by
  have ih:=Ky hok k (by omega);obtain⟨s,hs⟩:=AP (l:=P) (i:=k);have hs3:=hok s (qad hs);have hq:(P.map BN)[k]?=some (BN s):=by rw[qas,hs];rfl
  rw[Tc,qan,Xs hq];have hb:Jz P k=(decide (s=1) || decide (s=2)):=by unfold Jz;rw[hs];simp
  rw[hb];have h4:s=0\/s=1\/s=2\/s=3:=by omega
  rcases h4 with rfl|rfl|rfl|rfl
  .rw[if_neg (by decide),if_pos (by decide)];simp only[qby];omega
  .rw[if_pos (by decide),if_neg (by decide)];simp only[qav,qby];omega
  .rw[if_pos (by decide),if_neg (by decide)];simp only[qav,qby];omega
  .rw[if_neg (by decide),if_pos (by decide)];simp only[qby];omega
theorem Yj{P S:List Nat}(hok:∀s∈P,s<=3)(hnd:S.Nodup)(hS:∀x:Nat,x∈S↔P[x]?=some 1\/P[x]?=some 2):S.length+DD (P.map BN)=P.length:=by
 have h1:=Ky hok P.length (qae _);rw[qa6 (by rw[qai];omega)]at h1
 have hperm:S.Perm (Hj P P.length):=by
  refine(qd2 hnd (List.nodup_range.filter _)).2 fun x=>?_;rw[qbj,qdc,hS];unfold Jz;rw[qcf,qaq,qaq];refine⟨fun h=>⟨h.elim (fun h=>(qap.1 h).1) fun h=>(qap.1 h).1,h⟩,And.right⟩
 have h2:=hperm.length_eq;omega
theorem Ae2{s:St7}{L:List Pr}(h:Rising L):(Td s L).length<=L.length+1:=by
 unfold Td
 split
 .split
  .exact Nat.le_succ_of_le (Xn _ _)
  .omega
 .split
  .exact Xl _ _ _ h
  .omega
structure Std(w0 w:World)(bx bt bd bp ba n:Nat)(root:Int)(L:List Pr)(i:Nat)(A:Dev)(P:List Nat)(F:Mut):Prop where
 D:Dk w bx bt bd bp ba A P F
 T:TreeAt 10 A P root L
 on:A.on=true
 left:A.left = -1
 num:P.length=n
 blen:A.B.length=10+n
 few:Few A (40*i)
 li:L.length<=i
 new:∀x,TM F ba bt bp [] x->w0.heap.size<=x
 hx:Ext [] w0 w
section
variable {w0 w w':World}{bx bt bd bp ba n:Nat}{root:Int}{L:List Pr}{i:Nat}{A:Dev}{P:List Nat}{F:Mut}
theorem Std.call(s:Std w0 w bx bt bd bp ba n root L i A P F)(hx:Ext [] w w'):Std w0 w' bx bt bd bp ba n root L i A P F :=
 ⟨s.D.call hx,s.T,s.on,s.left,s.num,s.blen,s.few,s.li,s.new,s.hx.trans hx⟩
theorem Std.hl(s:Std w0 w bx bt bd bp ba n root L i A P F):10+P.length<=A.B.length:=by rw[s.num,s.blen];exact qae _
theorem Std.settle(s:Std w0 w bx bt bd bp ba n root L i A P F)(h:PgAt w' bp ba (P.map BN))(hx:Ext [ba] w w'):Std w0 w' bx bt bd bp ba n root L i A (P.map BN) F/\Grown (TM F ba bt bp []) (TM F ba bt bp []) w w':=by
 obtain⟨h1,h2⟩:=s.D.T.page h hx;exact⟨⟨s.D.step h1 h2,s.T.settle,s.on,s.left,by rw[qai];exact s.num,s.blen,s.few,s.li,s.new,h2.1.new s.hx s.new⟩,h2⟩
theorem Std.told(s:Std w0 w bx bt bd bp ba n root L i A P F)(hn:n<=2000):∃S,Told 10 A P root L S/\S.Nodup/\(∀x:Nat,x∈S↔P[x]?=some 1\/P[x]?=some 2):=s.T.told s.on s.hl (by rw[s.num];exact hn)
theorem Std.free(s:Std w0 w bx bt bd bp ba n root L i A P F)(hn:n<=2000):n<=DD (P.map BN)+2*i:=by
 obtain⟨S,td,hnd,hS⟩:=s.told hn;have h1:=Yj s.D.T.pg.ok hnd hS;have h2:=td.len;have h3:=s.li;have h4:=s.num;omega
theorem Std.step{root':Int}{L':List Pr}{A':Dev}{P':List Nat}{F':Mut}(s:Std w0 w bx bt bd bp ba n root L i A P F)(D':Dk w' bx bt bd bp ba A' P' F')(g:Grown (TM F ba bt bp []) (TM F' ba bt bp []) w w')(h:Stepped 10 A P root' L' A' P' (40*i+40))(hl:L'.length<=L.length+1) :
  Std w0 w' bx bt bd bp ba n root' L' (i+1) A' P' F':=by
 obtain⟨T',af,on',few'⟩:=h;refine⟨D',T',on',af.left s.left,af.len.trans s.num,af.blen.trans s.blen,few'.mono (by omega),?_,fun x hx=>?_,g.1.new s.hx s.new⟩
 .have:=s.li;omega
 .exact(g.2 x hx).elim (s.new x) fun h=>qaw s.hx.size h
theorem Std.does{t:St7}{v:Value}(s:Std w0 w bx bt bd bp ba n root L i A P F)(h:Does w bx bt bd bp ba A P F (Td t L) (40*i) v w') :
  ∃root' a' c' A' P' F',v=.tuple #[.int .i64 root',.slice a' (Td t L).length c',.bool true]/\Std w0 w' bx bt bd bp ba n root' (Td t L) (i+1) A' P' F'/\Prs w' (TM F' ba bt bp []) a' (Td t L).length c' (Td t L)/\Grown (TM F ba bt bp []) (TM F' ba bt bp []) w w'/\After 10 A P A' P':=by
 obtain⟨root',a',c',A',P',F',hv,D',g,st,PL'⟩:=h.ex;exact⟨root',a',c',A',P',F',hv,s.step D' g st (Ae2 s.T.rise),PL',g,st.aft⟩
theorem Std.put(s:Std w0 w bx bt bd bp ba n root L i A P F)(hn:n<=2000)(hi:i<=1000)(hfree:24<=DD P){ka va:Option Addr}{kc vc:Nat}{key val:Byt}(Rk:Rdx w (TM F ba bt bp []) ka key)(Rv:Rdx w (TM F ba bt bp []) va val)(hkc:key.length<=kc)(hvc:val.length<=vc)(hk:Dg key.length val.length=true) :
  Ret prog 120 #[ptr bt,.int .i64 root,.slice ka key.length kc,.slice va val.length vc] w fun v w'=>∃root' A' P' F',v=.tuple #[.int .i64 root',.int .i64 0]/\Std w0 w' bx bt bd bp ba n root' (HU L key val) (i+1) A' P' F'/\After 10 A P A' P'/\Grown (TM F ba bt bp []) (TM F' ba bt bp []) w w':=by
 obtain⟨S,td,-,-⟩:=s.told hn;have hlo:=td.rlo;have hhi:=td.rhi;have hnum:=s.num;have hkl:key.length<=32:=by unfold Dg at hk;simp only[qao,qaq]at hk;omega
 have hgood:=Ajp (key:=key) (val:=val) s.T s.on s.hl s.left hfree s.few
 rcases hgood with⟨h,_⟩|⟨_,h1,h4⟩
 .rw[hk]at h;cases h
 .refine(Ab5 (by omega) s.D.T root ka va kc vc _ _ key val Rk Rv U U hkc hvc s.few (by omega) (by rw[h1];decide)).mono fun v w' ⟨F',hv,T',g⟩=>?_;rw[h1]at hv;exact⟨_,_,_,F',hv,s.step (s.D.step T' g) g h4 (Xl _ _ _ s.T.rise),h4.aft,g⟩
theorem Std.cut(s:Std w0 w bx bt bd bp ba n root L i A P F)(hn:n<=2000)(hi:i<=1000)(hfree:24<=DD P){ka:Option Addr}{kc:Nat}{key:Byt}(Rk:Rdx w (TM F ba bt bp []) ka key)(hk:Dg key.length 0=true) :
  Ret prog 121 #[ptr bt,.int .i64 root,.slice ka key.length kc] w fun v w'=>∃root' A' P' F',v=.tuple #[.int .i64 root',.bool (DO L key).isSome,.int .i64 0]/\Std w0 w' bx bt bd bp ba n root' (JD L key) (i+1) A' P' F'/\After 10 A P A' P'/\((DO L key).isSome=false->root'=root)/\Grown (TM F ba bt bp []) (TM F' ba bt bp []) w w':=by
 obtain⟨S,td,-,-⟩:=s.told hn;have hlo:=td.rlo;have hhi:=td.rhi;have hnum:=s.num;have hkl:key.length<=32:=by unfold Dg at hk;simp only[qao,qaq]at hk;omega
 have hgood:=Ajq (key:=key) s.T s.on s.hl s.left hfree s.few
 rcases hgood with⟨h,_⟩|⟨_,h1,h2,h3,h4⟩
 .rw[hk]at h;cases h
 .refine(Ab6 (by omega) s.D.T root ka kc _ key Rk U s.few (by omega) (by rw[h1];decide)).mono fun v w' ⟨F',hv,T',g⟩=>?_;rw[h1,h2]at hv;exact⟨_,_,_,F',hv,s.step (s.D.step T' g) g h4 (Nat.le_succ_of_le (Xn _ _)),h4.aft,h3,g⟩
theorem Std.get(s:Std w0 w bx bt bd bp ba n root L i A P F)(hn:n<=2000)(hi:i<=1000){ka:Option Addr}{kc:Nat}{key:Byt}(Rk:Rd w ka 1 B8 key) :
  Ret prog 148 #[ptr bt,.int .i64 root,.slice ka key.length kc] w fun v w'=>∃va vc u b e,v=.tuple #[.slice va (List.length u) vc,.bool b,.int .i64 e]/\Ext [] w w'/\Rdx w' (TM F ba bt bp []) va u/\(Dg key.length 0=true->e=0/\b=(DO L key).isSome/\u=(DO L key).getD []):=by
 obtain⟨S,td,-,-⟩:=s.told hn;have hlo:=td.rlo;have hhi:=td.rhi;have hnum:=s.num;have hg:=XS (key:=key) s.T s.on s.hl (by omega);refine(Aby s.D.T (by omega) root ⟨by omega,by omega⟩ ka kc _ key Rk U s.few).mono fun v w' ⟨va,vc,u,hv,hx,X,hc,hu⟩=>?_;refine⟨va,vc,u,_,_,hv,hx,⟨X.1,X.2.imp id fun h hm=>h (s.D.T.mlt _ hm)⟩,fun hk=>?_⟩;rw[hu,hg,if_pos hk];exact⟨rfl,rfl,rfl⟩
end
structure Sm.In(w:World)(m:Sm):Prop where
 k:Rd w m.ka 1 B8 m.s.key
 v:Rd w m.va 1 B8 m.s.val
 kc:m.s.key.length<=m.kc
 vc:m.s.val.length<=m.vc
theorem Rdx.of0{w0 w:World}{M:Mut}{a:Option Addr}{l:Byt}(R:Rd w0 a 1 B8 l)(hx:Ext [] w0 w)(hM:∀x,M x->w0.heap.size<=x):Rdx w M a l:=by
 refine⟨R.ext0 hx,?_⟩
 rcases Pi R (fun _ _=>rfl)with h|h
 .exact .inl h
 .exact .inr fun hm=>by have:=hM _ hm;omega
theorem Sm.In.ok{w0 w:World}{M:Mut}{m:Sm}(h:m.In w0)(hk:m.s.key.length<=200)(hv:m.s.val.length<=500)(hx:Ext [] w0 w)(hM:∀x,M x->w0.heap.size<=x):m.Ok w M :=
 ⟨.of0 h.k hx hM,.of0 h.v hx hM,h.kc,h.vc,hk,hv⟩
def smallS(m:Sm):Prop:=m.s.key.length<=200/\m.s.val.length<=500
def bigS(m:Sm):Bool:=decide (200<m.s.key.length) || decide (500<m.s.val.length)
def heavy7B(l:List Sm):Bool:=(l.take 500).any bigS || decide (300<l.length)
structure Sunk(A0:Dev)(P0:List Nat)(root:Int)(L:List Pr)(A:Dev)(P:List Nat):Prop where
 T:TreeAt 10 A0 P0 root L
 back:P.map DC=P0
 blk:∀q,(∀x:Nat,P0[x]?=some 0->q≠10+x)->A.B.getD q (zeros,[])=A0.B.getD q (zeros,[])
 blen:A.B.length=A0.B.length
section
variable {A0 A A':Dev}{P0 P P':List Nat}{root:Int}{L:List Pr}
theorem Sunk.len(s:Sunk A0 P0 root L A P):P.length=P0.length:=by rw[<-s.back,qai]
theorem Sunk.pages(s:Sunk A0 P0 root L A P):∃S,Root (RD A0 10) root L S/\S.Nodup/\(∀x:Nat,x∈S↔P0[x]?=some 1\/P0[x]?=some 2)/\(∀x∈S,x<P0.length)/\∀x∈S,A.B.getD (10+x) (zeros,[])=A0.B.getD (10+x) (zeros,[]):=by
 obtain⟨S,h1,h2,h3⟩:=s.T.lies;refine⟨S,h1,h2,h3,fun x hx=>((h3 x).1 hx).elim (fun h=>(qap.1 h).1) fun h=>(qap.1 h).1,fun x hx=>s.blk _ fun y hy he=>?_⟩;obtain rfl:x=y:=by omega
 rcases(h3 x).1 hx with h|h
 .rw[hy]at h;cases h
 .rw[hy]at h;cases h
theorem Sunk.told(s:Sunk A0 P0 root L A P)(hon:A.on=true)(hl:10+P.length<=A.B.length)(hP:P.length<=2000):∃S,Told 10 A P root L S:=by
 obtain⟨S,h1,h2,h3,h4,h5⟩:=s.pages;exact⟨S,Go.Proofs.YtcpgbcabmcbclaaGreatDoor.told (h1.frame fun x hx=>by unfold RD;rw[h5 x hx]) hon hl hP h2 (fun x hx=>by rw[s.len];exact h4 x hx) s.T.rise⟩
theorem Sunk.after(s:Sunk A0 P0 root L A P)(af:After 10 A P A' P'):Sunk A0 P0 root L A' P' :=
 ⟨s.T,af.back.trans s.back,fun q hq=>(af.blk q fun x hx=>hq x (by rw[<-s.back,qas,hx];rfl)).trans (s.blk q hq),af.blen.trans s.blen⟩
theorem Sunk.start(T:TreeAt 10 A P root L)(h01:∀s∈P,s=0\/s=1):Sunk A P root L A P:=by
 refine⟨T,?_,fun q _=>rfl,rfl⟩
 have h:∀s∈P,DC s=id s:=fun s hs=>by rcases h01 s hs with rfl|rfl <;> rfl
 rw[qc0 h,List.map_id]
theorem Sunk.calm(s:Sunk A0 P0 root L A P):TreeAt 10 A P0 root L:=by
 obtain⟨S,h1,h2,h3,h4,h5⟩:=s.pages;exact⟨⟨S,h1.frame fun x hx=>by unfold RD;rw[h5 x hx],h2,h3⟩,s.T.rise,s.T.ok⟩
theorem Sunk.crash(s:Sunk A0 P0 root L A P)(hs:∀p∈A0.B,p.2=[])(hl:10+P0.length<=A0.B.length)(picks:List Int):TreeAt 10 (onD (KF A) picks) P0 root L:=by
 obtain⟨S,h1,h2,h3,h4,h5⟩:=s.pages;refine⟨⟨S,h1.frame fun x hx=>?_,h2,h3⟩,s.T.rise,s.T.ok⟩;have hx4:=h4 x hx;have hb:=s.blen;obtain⟨p,hp⟩:=AP (l:=A.B) (i:=10+x);have hp5:=h5 x hx;rw[qa9,hp]at hp5;have hp6:p=A0.B.getD (10+x) (zeros,[]):=hp5;have hp2:p.2=[]:=by rw[hp6];exact hs _ (NO)
 have hk:=Sw A.B picks hp;rw[if_pos hp2]at hk;unfold RD;rw[<-hp6,show(onD (KF A) picks).B=En A.B picks from rfl,qa9,hk];obtain⟨p1,p2⟩:=p;obtain rfl:p2=[]:=hp2;rfl
end
def Tells(A:Dev)(e:Int):Prop:=A.on = !decide (e=8)
theorem Tells.ok{A:Dev}(h:A.on=true){e:Int}(he:e≠8):Tells A e:=by
 unfold Tells;rw[h,qag he];rfl
theorem Tells.on{A:Dev}{e:Int}(h:Tells A e)(he:e≠8):A.on=true:=by
 unfold Tells at h;rw[h,qag he];rfl
theorem Tells.off{A:Dev}(h:Tells A 8):A.on=false:=by
 unfold Tells at h;rw[h];rfl
theorem Yk{A:Dev}(h:A.on=true)(k:Int)(b:Byt):Tells (CD A k b) (Dr A k b):=by
 unfold Tells CD Dr;rw[h]
 cases A.has k && decide (b.length=512)with
 |false=>simpa using h
 |true =>
  cases hg:A.goes with
  |true =>
   have h0:A.left=0:=qb6 hg;show A.less.on=_;unfold Dev.less;rw[if_pos h0];rfl
  |false =>
   have h0:¬A.left=0:=qcx hg;show(Pc A.less k.toNat b).on=_;unfold Pc Dev.less;rw[if_neg h0]
   split
   .exact h
   .exact h
theorem Vg{A:Dev}(h:A.on=true)(fr sz:Nat)(page depth:Int):(Dp A fr sz page depth).1≠8:=by
 have hr:GL A ((fr:Int)+page)≠8:=by
  unfold GL;rw[h];cases A.has ((fr:Int)+page) <;> decide
 unfold Dp
 split
 .exact(show(9:Int)≠8 by decide)
 .split
  .split
   .exact(show(9:Int)≠8 by decide)
   .exact(show(0:Int)≠8 by decide)
  .exact hr
theorem Ae3(k:UInt8)(l:List UInt8):GI k l≠8:=by
 unfold GI
 cases decide (k.toNat=0)with
 |true=>exact(show(1:Int)≠8 by decide)
 |false=>cases decide (505<l.length) <;> decide
theorem Vh{fr:Nat}{c:Ch}{i:Bool}{M:List It}(h:c.A.on=true):Tells (wrC fr c i M).2.A (wrC fr c i M).1:=by
 unfold wrC
 split
 .refine .ok h ?_;show Ik c.P≠8;unfold Ik
  split <;> decide
 .split
  .exact .ok h (Ae3 _ _)
  .exact Yk h _ _
theorem Ns{fr:Nat}{i:Bool}:∀{Hs:List (List It)} {c:Ch} {acc:List It},c.A.on=true->Tells (C3 fr i Hs c acc).2.1.A (C3 fr i Hs c acc).1
 | [],c,acc,h => .ok h (show(0:Int)≠8 by decide)
 |x::Hs,c,acc,h=>by
  have h1:=Vh (fr:=fr) (i:=i) (M:=x) h;unfold C3
  split
  .rename_i h0
   exact Ns (h1.on (by rw[h0];decide))
  .exact h1
theorem Tl{fr:Nat}{c:Ch}{i:Bool}{M:List It}(h:c.A.on=true):Tells (Fc fr c i M).2.1.A (Fc fr c i M).1:=by
 unfold Fc
 cases okM i M with
 |false=>exact .ok h (show(99:Int)≠8 by decide)
 |true =>
  show Tells (JE fr c i M).2.1.A (JE fr c i M).1;unfold JE
  split
  .exact .ok h (show(0:Int)≠8 by decide)
  .exact Ns h
theorem Aaa{fr:Nat}{c:Ch}{l:List It}{i d:Nat}{inner:Bool}{kid:List It}(h:c.A.on=true):(ED fr c l i d inner kid).1≠8:=by
 unfold ED
 split
 .split
  .exact(show(9:Int)≠8 by decide)
  .split
   .exact Vg h _ _ _ _
   .exact(show(9:Int)≠8 by decide)
   .exact(show(0:Int)≠8 by decide)
 .exact(show(0:Int)≠8 by decide)
theorem Ql{fr:Nat}{G:List It->List It}{key:Byt}:∀{n:Nat} {c:Ch} {p d:Nat},c.A.on=true->Tells (CO fr G key n c p d).2.1.A (CO fr G key n c p d).1
 |0,c,p,d,h => .ok h (show(9:Int)≠8 by decide)
 |n+1,c,p,d,h=>by
  have hr:=(Iz (fr:=fr) (c:=c) (p:=p) (d:=d)).2.2.1;unfold CO
  split
  .exact .ok h (Vg h _ _ _ _)
  .exact .ok (show(rdC fr c p d).A.on=true by rw[hr];exact h) (show(0:Int)≠8 by decide)
  .rename_i l _
   have h1:=Ql (fr:=fr) (G:=G) (key:=key) (n:=n) (c:=rdC fr c p d) (p:=Cr l (Cf l key)) (d:=d+1) (by rw[hr];exact h);dsimp only
   split
   .exact h1
   .rename_i h0
    have h2:=h1.on (by rw[Classical.not_not.1 h0];decide);obtain⟨b1,b2,b3⟩:=Pu (fr:=fr) (c:=(CO fr G key n (rdC fr c p d) (Cr l (Cf l key)) (d+1)).2.1) (l:=l) (i:=Cf l key) (d:=d) (inner:=(CO fr G key n (rdC fr c p d) (Cr l (Cf l key)) (d+1)).2.2.1) (kid:=(CO fr G key n (rdC fr c p d) (Cr l (Cf l key)) (d+1)).2.2.2)
    split
    .exact .ok (by dsimp only;rw[b3];exact h2) (Aaa h2)
    .exact Tl (by rw[b3];exact h2)
theorem Aab{fr:Nat}{c:Ch}{i:Bool}{M:List It}(h:c.A.on=true):Tells (Ee fr c i M).2.1.A (Ee fr c i M).1:=by
 have h1:=Tl (fr:=fr) (i:=i) (M:=M) h;unfold Ee
 split
 .exact .ok h (show(0:Int)≠8 by decide)
 .split
  .exact h1
  .rename_i h0
   have h2:=h1.on (by rw[Classical.not_not.1 h0];decide)
   split
   .exact .ok h2 (show(0:Int)≠8 by decide)
   .split
    .exact Vh h2
    .exact .ok h2 (show(0:Int)≠8 by decide)
theorem Yl{fr:Nat}{A:Dev}{P:List Nat}{root:Int}{key:Byt}{G:List It->List It}(h:A.on=true):Tells (DE fr A P root key G).2.2.A (DE fr A P root key G).1:=by
 obtain⟨ed,hed⟩:=qD (if root = -1 then(0,⟨A,P,[],[]⟩,false,G [])else CO fr G key 18 ⟨A,P,[],[]⟩ root.toNat 0:Int × Ch × Bool × List It)
 have hb:Tells ed.2.1.A ed.1:=by
  rw[hed]
  split
  .exact .ok h (show(0:Int)≠8 by decide)
  .exact Ql h
 have hturn:DE fr A P root key G=if ed.1≠0 then(ed.1,root,DI ed.2.1 ed.1)else if(Ee fr ed.2.1 ed.2.2.1 ed.2.2.2).1≠0 then((Ee fr ed.2.1 ed.2.2.1 ed.2.2.2).1,root,DI (Ee fr ed.2.1 ed.2.2.1 ed.2.2.2).2.1 (Ee fr ed.2.1 ed.2.2.1 ed.2.2.2).1)else(0,(Ee fr ed.2.1 ed.2.2.1 ed.2.2.2).2.2,DI (Ee fr ed.2.1 ed.2.2.1 ed.2.2.2).2.1 0):=by
  unfold DE;rw[hed]
 rw[hturn]
 split
 .exact hb
 .rename_i h0
  have ht:=Aab (fr:=fr) (i:=ed.2.2.1) (M:=ed.2.2.2) (hb.on (by rw[Classical.not_not.1 h0];decide))
  split
  .exact ht
  .rename_i h1
   exact .ok (ht.on (by rw[Classical.not_not.1 h1];decide)) (show(0:Int)≠8 by decide)
structure Res(A:Dev)(P:List Nat)(L':List Pr)(e r':Int)(A':Dev)(P':List Nat)(mx:Nat):Prop where
 aft:After 10 A P A' P'
 few:Few A' mx
 out:(e=0/\A'.on=true/\TreeAt 10 A' P' r' L')\/(e=8/\A.left ≠ -1/\A'.on=false/\P'=P)\/(e=7/\DD P<17/\A'.on=true/\P'=P)
section
variable {A:Dev}{P:List Nat}{root:Int}{L:List Pr}{key val:Byt}{mx:Nat}
end
def Fi(i:Bool):List It->List It->List (List It)->List (List It) × List It
 | [],part,l=>(l,part)
 |x::M,part,l=>if 503<Bc i part+CM i x then Fi i M [x] (l++[part])else Fi i M (part++[x]) l
def Tm(q:List It):List It:=q.drop (q.length - 1)
def Aac(i:Bool)(l:List (List It))(part:List It):List (List It) :=
 if i=true/\part.length=1/\l≠[]then l.take (l.length - 1)++[(l.getLastD []).take ((l.getLastD []).length - 1)]++[Tm (l.getLastD [])++part]else l++[part]
def Dj(i:Bool)(M:List It):List (List It):=Aac i (Fi i M [] []).1 (Fi i M [] []).2
def Nt(i:Bool):Nat:=if i=true then 38 else 164
structure Pk(i:Bool)(l:List (List It))(part:List It):Prop where
 full:∀q∈l,Bc i q<=503/\503<Bc i q+Nt i
 le:Bc i part<=503
 ne:l≠[]->part≠[]
 num:503*l.length+Bc i part<=2*(Bc i l.flatten+Bc i part)
 sz:∀q∈l,∀x∈q,CM i x<=Nt i
section
variable {i:Bool}{l:List (List It)}{part M:List It}
theorem Acq(i:Bool):Nt i<=164:=by unfold Nt;split <;> omega
theorem Wp(i:Bool)(x:It):Bc i [x]=CM i x:=by rw[Dc];rfl
theorem Apr(i:Bool):Pk i [] []:=⟨(fun q h=>by cases h),qak _,(fun h=>absurd rfl h),qae _,fun q h=>by cases h⟩
theorem Nu:∀{M:List It} {part:List It} {l:List (List It)},Pk i l part->(∀x∈part,CM i x<=Nt i)->(∀x∈M,CM i x<=Nt i) ->
  Pk i (Fi i M part l).1 (Fi i M part l).2/\(Fi i M part l).1.flatten++(Fi i M part l).2=l.flatten++(part++M)/\(M≠[]->(Fi i M part l).2≠[])
 | [],part,l,h,hp,hM=>⟨h,by simp[Fi],fun h=>absurd rfl h⟩
 |x::M,part,l,h,hp,hM=>by
  have hx:=hM x (qaf ..);have hm:=Acq i;have hM2:∀y∈M,CM i y<=Nt i:=fun y hy=>hM y (qaj _ hy);unfold Fi
  split
  .rename_i h1
   have hpk:Pk i (l++[part]) [x]:=by
    refine⟨fun q hq=>?_,by rw[Wp];omega,fun _=>by simp,?_,fun q hq=>?_⟩
    .rcases qat.1 hq with hq|hq
     .exact h.full q hq
     .rw[qaa.1 hq];exact⟨h.le,by omega⟩
    .have:=h.num;rw[qan,qbu,qcv,BB,Wp,qcw];omega
    .rcases qat.1 hq with hq|hq
     .exact h.sz q hq
     .rw[qaa.1 hq];exact hp
   obtain⟨a1,a2,a3⟩:=Nu (M:=M) hpk (fun y hy=>by rw[qaa.1 hy];exact hx) hM2;refine⟨a1,by rw[a2];simp,fun _=>?_⟩
   cases M with
   |nil=>simp[Fi]
   |cons y M=>exact a3 (by simp)
  .rename_i h1
   have hpk:Pk i l (part++[x]):=by
    refine⟨h.full,by rw[BB,Wp];omega,fun _=>by simp,?_,h.sz⟩;have:=h.num;rw[BB,Wp];omega
   obtain⟨a1,a2,a3⟩:=Nu (M:=M) hpk (fun y hy=>by
    rcases qat.1 hy with hy|hy
    .exact hp y hy
    .rw[qaa.1 hy];exact hx) hM2
   refine⟨a1,by rw[a2];simp,fun _=>?_⟩
   cases M with
   |nil=>simp[Fi]
   |cons y M=>exact a3 (by simp)
theorem MP(h:l≠[]):l=l.take (l.length - 1)++[l.getLastD []]:=by
 have h1:=qfi h;rw[List.dropLast_eq_take]at h1;rw[List.getLastD_eq_getLast?,List.getLast?_eq_some_getLast h,qdr];exact h1.symm
theorem LJ(q:List It):q.take (q.length - 1)++Tm q=q:=qbl ..
theorem Vi(hM:Many i M)(hs:∀x∈M,CM i x<=Nt i) :
  (Dj i M).flatten=M/\(∀a∈Dj i M,Many i a/\Bc i a<=503)/\1<=(Dj i M).length/\503*((Dj i M).length - 1)<2*Bc i M:=by
 obtain⟨h1,h2,h3⟩:=Nu (M:=M) (Apr i) (fun x h=>by cases h) hs;replace h3:=h3 hM.ne;rw[List.flatten_nil,qa7,qa7]at h2;obtain⟨l,hl⟩:=qD ((Fi i M [] []).1);obtain⟨part,hpt⟩:=qD ((Fi i M [] []).2);unfold Dj;rw[<-hl,<-hpt]at h1 h2 |-;rw[<-hpt]at h3;have hsp:∀x∈part,CM i x<=Nt i:=fun x hx=>hs x (by rw[<-h2];exact qax _ hx);have htot:Bc i M=Bc i l.flatten+Bc i part:=by rw[<-h2,BB]
 have hpp:4<=Bc i part:=by have h5:=Jd i part;have h6:=qbv.2 h3;omega
 have hnum:=h1.num
 have hfat:∀q∈l,q≠[]:=fun q hq e=>by
  have h5:=(h1.full q hq).2;have h6:=Acq i;rw[e]at h5
  have:Bc i []=0:=rfl
  omega
 unfold Aac
 split
 .rename_i hf
  obtain⟨hi,hp1,hl0⟩:=hf;subst hi;have hsl:=MP hl0;obtain⟨q,hq⟩:=qD (l.getLastD []);rw[<-hq]at hsl |-;have hqm:q∈l:=by rw[hsl];exact qax _ (qaa.2 rfl)
  have hqf:=(h1.full q hqm);have hqs:=Fq (inner:=true) (m:=38) (l:=q) (h1.sz q hqm);have h38:Nt true=38:=rfl
  have hql:13<=q.length:=by
   rcases qbr q.length 13 with h5|h5
   .have:38*q.length<=38*12:=qb7 _ (by omega)
    omega
   .exact h5
  have hla:(Tm q).length=1:=by unfold Tm;rw[qbg];omega
  have hls:∀x∈Tm q++part,CM true x<=38:=fun x hx=>(qat.1 hx).elim (fun h=>h1.sz q hqm x (qcy h)) (hsp x)
  have hlen:l.length=(l.take (l.length - 1)).length+1:=by
   have h5:=qab List.length hsl;rw[qan]at h5;exact h5
  refine⟨?_,fun a ha=>?_,?_,?_⟩
  .rw[<-h2]
   conv=>rhs;rw[hsl]
   rw[qcv,qcv,qcv,qcw,qcw,qcw,qa1,<-qa1 (q.take _),LJ,qa1]
  .rcases qat.1 ha with ha|ha
   .rcases qat.1 ha with ha|ha
    .have ham:=qbq ha;have haf:=h1.full a ham;have has:=Fq (inner:=true) (m:=38) (l:=a) (h1.sz a ham);refine⟨?_,haf.1⟩;show 2<=a.length
     rcases qbr a.length 2 with h5|h5
     .have:38*a.length<=38*1:=qb7 _ (by omega)
      omega
     .exact h5
    .rw[qaa.1 ha];have h5:=BB true (q.take (q.length - 1)) (Tm q);rw[LJ]at h5;refine⟨?_,by omega⟩;show 2<=_;rw[qa0];omega
   .rw[qaa.1 ha];have h5:=Fq (inner:=true) (m:=38) hls;rw[qan,hla,hp1]at h5;refine⟨?_,by omega⟩;show 2<=_;rw[qan,hla,hp1];omega
  .simp
  .rw[qan,qan,qbu,qbu];omega
 .rename_i hf
  refine⟨by rw[qcv,qcw,h2],fun a ha=>?_,by simp,?_⟩
  .rcases qat.1 ha with ha|ha
   .have haf:=h1.full a ha;refine⟨?_,haf.1⟩;unfold Many
    split
    .rename_i hi
     subst hi;have has:=Fq (inner:=true) (m:=38) (l:=a) (h1.sz a ha);have h38:Nt true=38:=rfl
     rcases qbr a.length 2 with h5|h5
     .have:38*a.length<=38*1:=qb7 _ (by omega)
      omega
     .exact h5
    .exact hfat a ha
   .rw[qaa.1 ha];refine⟨?_,h1.le⟩;unfold Many at hM |-
    split
    .rename_i hi
     rw[if_pos hi]at hM;have h6:=qbv.2 h3
     rcases qbr part.length 2 with h5|h5
     .by_cases hl0:l=[]
      .rw[hl0]at h2;rw[<-h2]at hM;exact hM
      .exact absurd ⟨hi,by omega,hl0⟩ hf
     .exact h5
    .exact h3
  .rw[qan,qbu];omega
end
theorem Vj{fr h:Nat}{i:Bool}:∀{Hs:List (List It)} {c:Ch} {acc:List It} {L:List Pr} {S:List Nat},Part (RD c.A fr) h i Hs.flatten L S->OkP L->Held c.P S->On fr c->(∀a∈Hs,Many i a/\Bc i a<=503)->c.A.left = -1->Hs.length<=DD c.P ->
  ∃t K S',CI fr c (C3 fr i Hs c acc).2.1 t []/\t.length=Hs.length/\(C3 fr i Hs c acc).1=0/\On fr (C3 fr i Hs c acc).2.1/\(C3 fr i Hs c acc).2.2=acc++K/\K.length=Hs.length/\Kids (Lies (RD (C3 fr i Hs c acc).2.1.A fr) h) K L S'/\S'.Perm (S++t)/\Held (C3 fr i Hs c acc).2.1.P S'
 | [],c,acc,L,S,hp,ho,hh,hn,hm,hl,hf=>by
  have hLS:L=[]/\S=[]:=by
   cases h with
   |zero =>
    obtain⟨_,he,rfl⟩:=hp
    cases L with
    |nil=>exact⟨rfl,rfl⟩
    |cons _ _=>cases he
   |succ h=>exact hp.2
  obtain⟨rfl,rfl⟩:=hLS;exact⟨[],[],[],CI.refl _ _,rfl,rfl,hn,by simp[C3],rfl,⟨rfl,rfl⟩,by simp,fun x hx=>by cases hx⟩
 |a::Hs,c,acc,L,S,hp,ho,hh,hn,hm,hl,hf=>by
  rw[qe7]at hp;obtain⟨La,Lb,Sa,Sb,rfl,rfl,pa,pb⟩:=hp.append;have hoa:OkP La:=fun p hp=>ho p (qa5 _ hp);have hob:OkP Lb:=fun p hp=>ho p (qax _ hp);have hha:Held c.P Sa:=hh.sub fun x hx=>qa5 _ hx;have hhb:Held c.P Sb:=hh.sub fun x hx=>qax _ hx;obtain⟨hma,hta⟩:=hm a (qaf ..);rw[qav]at hf;obtain⟨t,w1,w2,w3⟩:=Mn pa hoa hha hn hma hta
  rcases w3 with⟨h7,rfl,h8,h9,h10⟩|h7
  .have hfr:=w1.free;rw[qbu]at hfr;obtain⟨t',K,S',v1,v2,v3,v4,v5,v6,v7,v8,v9⟩:=Vj (Hs:=Hs) (acc:=acc++[⟨Gy a,[],Ci c.P⟩]) (pb.frame (w1.rd hhb)) hob (hhb.keep w1) h8 (fun b hb=>hm b (qaj _ hb)) (w1.left hl) (by omega)
   have hput:C3 fr i (a::Hs) c acc=C3 fr i Hs (wrC fr c i a).2 (acc++[⟨Gy a,[],Ci c.P⟩]):=by
    conv=>lhs;unfold C3
    rw[if_pos h7]
   rw[hput];have hCI:=w1.trans v1;refine⟨[Ci c.P]++t',⟨Gy a,[],Ci c.P⟩::K,(Ci c.P::Sa)++S',hCI,by rw[qan,v2];simp;omega,v3,v4,by rw[v5];simp,by simp[v6],?_,?_,?_⟩
   .exact⟨La,Lb,Ci c.P::Sa,S',rfl,rfl,h9.frame (v1.rd (w1.held.app (hha.keep w1))),h10,rfl,v7⟩
   .have h1:((Ci c.P::Sa)++S').Perm (([Ci c.P]++Sa)++(t'++Sb)):=qfh _ (v8.trans qcn);exact h1.trans (perm_front.trans qcn)
   .exact((w1.held.app (hha.keep w1)).keep v1).app v9
  .exfalso
   rcases h7 with⟨_,h7⟩|⟨_,h7⟩
   .exact h7 hl
   .omega
def FN:Nat->Nat->Nat
 |0,lv=>lv
 |n+1,lv=>lv+if 1<lv then FN n (2*lv*38 / 503+1)else 0
def okF(c:Ch)(i:Bool)(M:List It):Bool :=
 decide (M.length<=100000) && (decide (c.tk.length+(Dj i M).length<=50000) && ((M.all fun x=>decide (x.key.length<=65535) && (decide (x.val.length<=65535) && (decide (x.page<9223372036854775808) && decide (CM i x<=503)))) && (Dj i M).all fun h=>decide (h≠[]) && decide (h.length<=1000)))
def Cg(fr:Nat):Nat->Ch->Bool->List It->Int × Ch × Int
 |0,c,_,_=>(99,c,-1)
 |n+1,c,i,M =>
  if okF c i M=false then(99,c,-1)
  else if(C3 fr i (Dj i M) c []).1≠0 then((C3 fr i (Dj i M) c []).1,(C3 fr i (Dj i M) c []).2.1,-1)
  else if(C3 fr i (Dj i M) c []).2.2.length=1 then(0,(C3 fr i (Dj i M) c []).2.1,(Cr (C3 fr i (Dj i M) c []).2.2 0:Int))
  else Cg fr n (C3 fr i (Dj i M) c []).2.1 true (C3 fr i (Dj i M) c []).2.2
theorem Tn(n lv:Nat):lv<=FN n lv:=by
 cases n with
 |zero=>exact qae _
 |succ n=>unfold FN;omega
theorem To{fr:Nat}:∀{n h:Nat} {c:Ch} {i:Bool} {M:List It} {L:List Pr} {S:List Nat} (lv:Nat),lv<=n->n<=1500->Part (RD c.A fr) h i M L S->OkP L->Held c.P S->On fr c->Many i M->c.A.left = -1->2*Bc i M / 503+1<=lv->FN n lv<=DD c.P->c.tk.length+DD c.P<=5000 ->
  ∃t,CI fr c (Cg fr n c i M).2.1 t []/\t.length<=FN n lv/\(Cg fr n c i M).1=0/\On fr (Cg fr n c i M).2.1/\∃S',Root (RD (Cg fr n c i M).2.1.A fr) (Cg fr n c i M).2.2 L S'/\S'.Perm (S++t)/\Held (Cg fr n c i M).2.1.P S'
 |0,h,c,i,M,L,S,lv,hlv,hn15,hp,ho,hh,hn,hm,hl,h3,hf,htk=>by omega
 |n+1,h,c,i,M,L,S,lv,hlv,hn15,hp,ho,hh,hn,hm,hl,h3,hf,htk=>by
  have hx:=hp.ok ho hh hn.few
  have hsz:∀x∈M,CM i x<=Nt i:=fun x hx'=>by
   obtain⟨_,h4,h5⟩:=hx x hx';unfold Nt
   split
   .rename_i hi;exact h5 hi
   .exact h4
  obtain⟨f1,f2,f3,f4⟩:=Vi hm hsz;have hklv:(Dj i M).length<=lv:=by omega
  have hfl:lv<=FN (n+1) lv:=Tn _ _
  have hok:okF c i M=true:=by
   have hM:=Jd i M;unfold okF;simp only[qao,qaq,qb5];refine⟨by omega,by omega,fun x hx'=>?_,fun a ha=>?_⟩
   .obtain⟨⟨h4,h5,h6,_⟩,h7,_⟩:=hx x hx';omega
   .have h4:=Jd i a;have h5:=(f2 a ha).2;exact⟨(f2 a ha).1.ne,by omega⟩
  obtain⟨t,K,S',p1,p2,p3,p4,p5,p6,p7,p8,p9⟩:=Vj (Hs:=Dj i M) (acc:=[]) (by rw[f1];exact hp) ho hh hn f2 hl (by omega);rw[qa7]at p5;unfold Cg;rw[if_neg (by rw[hok];simp),if_neg (by rw[p3];simp)]
  split
  .rename_i h1
   refine⟨t,p1,by omega,rfl,p4,S',?_,p8,p9⟩;rw[p5]at h1 |-
   match K,h1 with
   | [z],_ =>
    obtain⟨L1,L2,S1,S2,rfl,rfl,k1,k2,k3,rfl,rfl⟩:=p7;rw[qa3,qa3];exact .inr ⟨h,z.page,rfl,k1⟩
  .rename_i h1
   rw[p5]at h1 |-;have hK2:2<=K.length:=by omega
   have hlv2:1<lv:=by omega
   have hmg:FN (n+1) lv=lv+FN n (2*lv*38 / 503+1):=by
    conv=>lhs;unfold FN
    rw[if_pos hlv2]
   rw[hmg]at hf |-;have hfree:=p1.free;have htk2:(C3 fr i (Dj i M) c []).2.1.tk.length=c.tk.length+t.length:=by rw[p1.tk,qan]
   have hP1:Part (RD (C3 fr i (Dj i M) c []).2.1.A fr) (h+1) true K L S':=⟨rfl,p7⟩;have hKs:=Fq (inner:=true) (m:=38) (l:=K) fun x hx'=>((hP1.ok ho p9 p4.few) x hx').2.2 rfl
   have hle:2*Bc true K / 503+1<=2*lv*38 / 503+1:=by
    have h5:2*Bc true K<=2*lv*38:=by
     have:38*K.length<=38*lv:=qb7 _ (by omega)
     omega
    have:=Nat.div_le_div_right (c:=503) h5;omega
   obtain⟨t',b1,b2,b3,b4,S'',b5,b6,b7⟩:=To (n:=n) (2*lv*38 / 503+1) (by omega) (by omega) hP1 ho p9 p4 (show 2<=K.length from hK2) (p1.left hl) hle (by omega) (by omega);have hCI:=p1.trans b1;refine⟨t++t',hCI,by rw[qan];omega,b3,b4,S'',b5,?_,b7⟩;rw[<-qa1];exact b6.trans (p8.append_right _)
def Tq(L:List Pr)(i:Nat):Prop:=∃p,L[i]?=some p/\Dg p.1.length p.2.length=true/\∀q,0<i->L[i - 1]?=some q->ltB q.1 p.1
def Bx(L:List Pr):Nat:=(L.map fun p=>4+p.1.length+p.2.length).sum
theorem Ts(L:List Pr):Bc false (L.map BM)=Bx L:=by
 induction L with
 |nil=>rfl
 |cons p L ih =>
  rw[qaz,Dc,ih];unfold Bx;rw[qaz,qc5];rfl
structure Built(A:Dev)(P:List Nat)(L:List Pr)(e root:Int)(A':Dev)(P':List Nat):Prop where
 ok:e=0
 tree:TreeAt 10 A' P' root L
 on:A'.on=true
 left:A'.left = -1
 blen:A'.B.length=A.B.length
 len:P'.length=P.length
 cnt:∃S,Root (RD A' 10) root L S/\S.Nodup/\(∀x:Nat,x∈S↔P'[x]?=some 1\/P'[x]?=some 2)/\S.length<=FN 1500 (2*Bx L / 503+1)
def Qw(A:Dev)(P:List Nat)(L:List Pr):Int × Ch × Int:=Cg 10 1500 ⟨A,P,[],[]⟩ false (L.map BM)
theorem Ym:∀{n m lv:Nat},lv<=m->FN n lv<=2*m
 |0,m,lv,h=>by show lv<=_;omega
 |n+1,m,lv,h=>by
  unfold FN
  split
  .have:=Ym (n:=n) (m:=lv / 2) (lv:=2*lv*38 / 503+1) (by omega);omega
  .omega
theorem built{n:Nat}{L:List Pr}(hn:n=1500)(hL:L.length<=1000)(ho:OkP L)(hr:Rising L)(hne:L≠[]) :
  Built (Fu (10+n)) (List.replicate n 0) L (Qw (Fu (10+n)) (List.replicate n 0) L).1 (Qw (Fu (10+n)) (List.replicate n 0) L).2.2 (Qw (Fu (10+n)) (List.replicate n 0) L).2.1.A (DI (Qw (Fu (10+n)) (List.replicate n 0) L).2.1 0).P/\(Qw (Fu (10+n)) (List.replicate n 0) L).2.1.tk.length<=1400:=by
 have hb:Bx L<=164*L.length:=by
  have:∀L:List Pr,OkP L->Bx L<=164*L.length:=by
   intro L
   induction L with
   |nil=>intro _;exact qak _
   |cons p L ih =>
    intro ho;obtain⟨h1,h2,h3⟩:=ho p (qaf ..);have:=ih fun q hq=>ho q (qaj _ hq);unfold Bx at this |-;rw[qaz,qc5,qav];omega
  exact this L ho
 have hfree:DD (List.replicate n 0)=n:=by
  unfold DD;rw[List.countP_replicate];exact if_pos (by decide)
 have hblen:(Fu (10+n)).B.length=10+n:=qa8 ..;have hplen:(List.replicate n 0:List Nat).length=n:=qa8 ..;have hmost:=Ym (n:=1500) (m:=653) (lv:=2*Bx L / 503+1) (by omega);obtain⟨t,b1,b2,b3,b4,S',b5,b6,b7⟩:=To (fr:=10) (n:=1500) (h:=0) (c:=⟨Fu (10+n),List.replicate n 0,[],[]⟩) (i:=false) (M:=L.map BM) (L:=L) (S:=[]) (2*Bx L / 503+1) (by omega) (qae _) ⟨rfl,rfl,rfl⟩ ho (fun x h=>by cases h) ⟨rfl,by dsimp only;omega,by dsimp only;omega⟩ (show L.map BM≠[]from fun e=>hne (List.map_eq_nil_iff.1 e)) rfl (by rw[Ts];exact qae _) (by dsimp only;omega) (by dsimp only;rw[hfree];show 0+n<=5000;omega)
 have hP:(DI (Qw (Fu (10+n)) (List.replicate n 0) L).2.1 0).P=(Qw (Fu (10+n)) (List.replicate n 0) L).2.1.P:=by
  have hg:(Qw (Fu (10+n)) (List.replicate n 0) L).2.1.gn=[]:=by
   show(Cg 10 1500 ⟨Fu (10+n),List.replicate n 0,[],[]⟩ false (L.map BM)).2.1.gn=[];rw[b1.gn];rfl
  show((if(0:Int)≠0 then _ else(Qw (Fu (10+n)) (List.replicate n 0) L).2.1.gn).foldl EC _)=_;rw[if_neg (by simp),hg];rfl
 rw[hP];rw[qa7]at b6
 have hS:∀x:Nat,x∈S'↔(Qw (Fu (10+n)) (List.replicate n 0) L).2.1.P[x]?=some 1\/(Qw (Fu (10+n)) (List.replicate n 0) L).2.1.P[x]?=some 2:=fun x=>by
  have h1:=b1.now x;rw[b6.mem_iff];show _↔(Cg 10 1500 ⟨Fu (10+n),List.replicate n 0,[],[]⟩ false (L.map BM)).2.1.P[x]?=some 1\/(Cg 10 1500 ⟨Fu (10+n),List.replicate n 0,[],[]⟩ false (L.map BM)).2.1.P[x]?=some 2;rw[h1]
  by_cases hx:x∈t
  .rw[if_pos hx];exact⟨fun _ => .inr rfl,fun _=>hx⟩
  .rw[if_neg hx];refine⟨fun h=>absurd h hx,fun h=>?_⟩;have h0:∀{s:Nat},(List.replicate n 0)[x]?=some s->s=0:=fun h=>List.eq_of_mem_replicate (qad h)
   rcases h with h|h
   .have:=h0 h;omega
   .have:=h0 h;omega
 have htk:(Qw (Fu (10+n)) (List.replicate n 0) L).2.1.tk.length<=1400:=by
  show(Cg 10 1500 ⟨Fu (10+n),List.replicate n 0,[],[]⟩ false (L.map BM)).2.1.tk.length<=1400;rw[b1.tk];simp only[qa7];omega
 exact⟨⟨b3,⟨⟨S',b5,b6.nodup_iff.2 b1.nd,hS⟩,hr,ho⟩,b4.on,b1.left rfl,b1.blen,b1.len,S',b5,b6.nodup_iff.2 b1.nd,hS,by rw[b6.length_eq];exact b2⟩,htk⟩
theorem Ajz:∀{a b:Byt},a<b↔ltB a b
 | [],[]=>by simp[ltB,show DU [] []=0 from rfl]
 | [],y::b=>by simp[ltB,show DU [] (y::b) = -1 from rfl]
 |x::a,[]=>by simp[ltB,show DU (x::a) []=1 from rfl]
 |x::a,y::b=>by
  rw[List.cons_lt_cons_iff,Ajz (a:=a) (b:=b)];unfold ltB;rw[GQ]
  by_cases h1:x<y
  .rw[if_pos h1];simp[h1]
  .rw[if_neg h1]
   by_cases h2:y<x
   .rw[if_pos h2]
    have:x≠y:=fun h=>by rw[h]at h2;exact UInt8.lt_irrefl _ h2
    simp[h1,this]
   .rw[if_neg h2];have h3:x=y:=UInt8.le_antisymm (UInt8.not_lt.1 h2) (UInt8.not_lt.1 h1);simp[h1,h3]
theorem Aps{a b:Byt}:a<=b↔¬ltB b a:=by
 rw[<-Ajz,List.not_lt]
theorem Acr{L:List Pr}{k v k' u:Byt}:(k',u)∈HU L k v↔(k'=k/\u=v)\/((k',u)∈L/\k'≠k):=by
 unfold HU;simp only[qat,qac,qbj,qaq,qdb];constructor
 .rintro(⟨h1,h2⟩|h|⟨h1,h2⟩)
  .exact .inr ⟨h1,Hx h2⟩
  .exact .inl h
  .exact .inr ⟨h1,fun e=>Hx h2 e.symm⟩
 .rintro(h|⟨h1,h2⟩)
  .exact .inr (.inl h)
  .rcases Mj k' k with h|h|h
   .exact .inl ⟨h1,h⟩
   .exact absurd h h2
   .exact .inr (.inr ⟨h1,h⟩)
theorem Aml{L:List Pr}{k k' u:Byt}:(k',u)∈JD L k↔(k',u)∈L/\k'≠k:=by
 unfold JD;simp[qbj]
theorem Yn{L:List Pr}(h:Rising L)(k v k':Byt):DO (HU L k v) k'=if k'=k then some v else DO L k':=by
 refine Option.ext fun u=>?_;rw[EU (GR h k v),Acr]
 by_cases he:k'=k
 .rw[if_pos he];simp[he,eq_comm]
 .rw[if_neg he,EU h];simp[he]
theorem Yo{L:List Pr}(h:Rising L)(k k':Byt):DO (JD L k) k'=if k'=k then none else DO L k':=by
 refine Option.ext fun u=>?_;rw[EU (HV h k),Aml]
 by_cases he:k'=k
 .rw[if_pos he];simp[he]
 .rw[if_neg he,EU h];simp[he]
theorem Jj{L:List Pr}(h:Rising L):(L.map (·.1)).Nodup:=by
 rw[qdo,qbs];exact h.imp fun h=>Hx h
theorem Fs{kv:List Pr}(h:(kv.map (·.1)).Nodup):kv.Nodup:=(qbs.1 h).imp fun h e=>h (by rw[e])
theorem Yp{L M:List Pr}(hL:Rising L)(hM:Rising M)(h:∀k,DO L k=DO M k):L=M:=by
 have hm:∀p,p∈L↔p∈M:=fun p=>by rw[show p=(p.1,p.2)from rfl,<-EU hL,<-EU hM,h]
 have n1:L.Nodup:=Fs (Jj hL);have n2:M.Nodup:=Fs (Jj hM);refine qfj (le:=fun(x y:Pr)=>ltB x.1 y.1) (fun a b _ _ h1 h2=>absurd h2 (Fp h1)) hL hM ((qd2 n1 n2).2 hm)
theorem Aj0{kv:Kvl}(h:(kv.map (·.1)).Nodup){k v:Byt}:BJ kv k=some v↔(k,v)∈kv:=by
 refine⟨EV,fun hm=>?_⟩
 induction kv with
 |nil=>cases hm
 |cons p kv ih =>
  rw[qaz,qck]at h;unfold BJ at ih |-;rw[qda]
  rcases qac.1 hm with rfl|hm
  .simp
  .have hne:¬p.1=k:=fun e=>h.1 (by rw[e];exact qah.2 ⟨_,hm,rfl⟩);rw[qag hne];exact ih h.2 hm
theorem Yq{kv:Kvl}(h:(kv.map (·.1)).Nodup)(k k':Byt):BJ (Gr kv k) k'=if k'=k then none else BJ kv k':=by
 induction kv with
 |nil=>split <;> rfl
 |cons p kv ih =>
  rw[qaz,qck]at h;have ih:=ih h.2;unfold Gr
  by_cases hp:p.1=k
  .rw[if_pos hp]
   by_cases he:k'=k
   .rw[if_pos he];rw[<-qdf,FW];simp only[qaq];rw[he,<-hp];exact h.1
   .rw[if_neg he];unfold BJ;rw[qda,qag (fun e=>he (by rw[<-e,hp]))]
  .rw[if_neg hp];unfold BJ at ih |-;rw[qda,qda]
   by_cases he:p.1=k'
   .rw[qal he,if_neg (fun e=>hp (by rw[he,e]))]
   .rw[qag he];exact ih
theorem Yr{kv:Kvl}(h:(kv.map (·.1)).Nodup)(x:Wr)(k:Byt):BJ (LF kv x) k=if k=x.k then(if x.d=true then none else some x.v)else BJ kv k:=by
 unfold LF
 split
 .rw[Yq h]
 .obtain⟨h1,h2⟩:=Kx (k:=x.k) h
  have h3:BJ (Gr kv x.k) x.k=none:=by
   rw[<-qdf,FW]
   simpa using h2
  rw[FT h3];have hd:=Yq h x.k k;unfold BJ at hd |-;rw[qek,Option.map_or,hd]
  by_cases he:k=x.k
  .simp[he]
  .have he':¬x.k=k:=fun e=>he e.symm;simp[he,he']
def doP(L:List Pr)(x:Wr):List Pr:=if x.d=true then JD L x.k else HU L x.k x.v
def Ep(L:List Pr)(W:List Wr):List Pr:=W.foldl doP L
structure KL(kv:Kvl)(L:List Pr):Prop where
 nd:(kv.map (·.1)).Nodup
 rise:Rising L
 get:∀k,BJ kv k=DO L k
theorem Nv{L:List Pr}(h:Rising L)(x:Wr):Rising (doP L x):=by
 unfold doP
 split
 .exact HV h _
 .exact GR h _ _
theorem LK:∀{W:List Wr} {L:List Pr},Rising L->Rising (Ep L W)
 | [],_,h=>h
 |x::W,L,h=>LK (W:=W) (Nv h x)
theorem Acs{L:List Pr}(h:Rising L)(x:Wr)(k:Byt):DO (doP L x) k=if k=x.k then(if x.d=true then none else some x.v)else DO L k:=by
 unfold doP
 split
 .rw[Yo h]
 .rw[Yn h]
section
variable {kv:Kvl}{L:List Pr}
theorem KL.set(h:KL kv L)(x:Wr):KL (LF kv x) (doP L x) :=
 ⟨Nr h.nd,Nv h.rise x,fun k=>by rw[Yr h.nd,Acs h.rise,h.get]⟩
theorem KL.sets:∀{W:List Wr} {kv:Kvl} {L:List Pr},KL kv L->KL (Gb kv W) (Ep L W)
 | [],_,_,h=>h
 |x::W,_,_,h=>KL.sets (W:=W) (h.set x)
theorem KL.nil:KL [] []:=⟨qcb,List.Pairwise.nil,fun _=>rfl⟩
theorem KL.perm(h:KL kv L):kv.Perm L:=by
 refine(qd2 (Fs h.nd) (Fs (Jj h.rise))).2 fun p=>?_;rw[show p=(p.1,p.2)from rfl,<-Aj0 h.nd,<-EU h.rise,h.get]
theorem KL.len(h:KL kv L):kv.length=L.length:=h.perm.length_eq
theorem KL.one{M:List Pr}(h:KL kv L)(h2:KL kv M):L=M:=Yp h.rise h2.rise fun k=>by rw[<-h.get,h2.get]
theorem KL.scan(h:KL kv L)(kf kt:Byt):LI kv kf kt=Ga kf kt L:=by
 have hs:(CF kv).Pairwise (fun x y=>ltB x y):=by
  have h1:(CF kv).Pairwise (fun x y=>x<=y):=by
   have:=qfd (le:=fun x y:Byt=>decide (x<=y)) (fun a b c h1 h2=>by simp only[qaq]at *;exact List.le_trans h1 h2) (fun a b=>by simp only[qcf,qaq];exact List.le_total a b) (kv.map (·.1));exact this.imp fun h=>by simpa using h
  have h2:(CF kv).Nodup:=((qce _ _).nodup_iff).2 h.nd;refine(h1.and h2).imp fun{a b} hab=>?_
  rcases Mj a b with h3|h3|h3
  .exact h3
  .exact absurd h3 hab.2
  .exact absurd h3 (Aps.1 hab.1)
 have hk:CF kv=L.map (·.1):=by
  have hp:(CF kv).Perm (L.map (·.1)):=(qce _ _).trans (h.perm.map _);exact qfj (le:=ltB) (fun a b _ _ h1 h2=>absurd h2 (Fp h1)) hs (qbs.2 h.rise) hp
 unfold LI Ga;rw[hk,List.filter_map,qbi];have hf:(Wn kf kt ∘ fun x:Pr=>x.1)=fun p:Pr=>inR kf kt p.1:=rfl;rw[hf]
 have:∀p∈L.filter fun p=>inR kf kt p.1,((fun k=>(k,(BJ kv k).getD [])) ∘ fun x:Pr=>x.1) p=p:=fun p hp=>by
  have h1:=(EU h.rise (k:=p.1) (v:=p.2)).2 (qbj.1 hp).1;show(p.1,(BJ kv p.1).getD [])=p;rw[h.get,h1];rfl
 rw[qc0 this,List.map_id''];exact fun _=>rfl
end
theorem FO(p:Pr)(L:List Pr):Bx (p::L)=4+p.1.length+p.2.length+Bx L:=by simp[Bx]
theorem Tt(A B:List Pr):Bx (A++B)=Bx A+Bx B:=by simp[Bx]
theorem GS{A B:List Pr}(h:A.Perm B):Bx A=Bx B:=(h.map _).sum_nat
theorem Vk:∀{kv:Kvl} (_:(kv.map (·.1)).Nodup) (k:Byt),(Bx (Gr kv k):Int)=Bx kv - LG kv k
 | [],_,k=>by simp[Gr,LG,BJ,Bx]
 |p::kv,h,k=>by
  rw[qaz,qck]at h;have ih:=Vk h.2 k;unfold LG BJ at ih |-;unfold Gr;rw[qda]
  by_cases hp:p.1=k
  .rw[if_pos hp,qal hp,FO];simp only[qbd,ME,<-hp];omega
  .rw[if_neg hp,qag hp,FO,FO];dsimp only;omega
theorem Ae4{kv:Kvl}(h:(kv.map (·.1)).Nodup)(x:Wr):(Bx (LF kv x):Int)=Bx kv - LG kv x.k+H3 x:=by
 have hd:=Vk h x.k;unfold LF H3
 split
 .rw[hd];omega
 .obtain⟨h1,h2⟩:=Kx (k:=x.k) h
  have h3:BJ (Gr kv x.k) x.k=none:=by
   rw[<-qdf,FW]
   simpa using h2
  rw[FT h3,Tt,FO]
  have:Bx []=0:=rfl
  rw[this,<-hd];unfold ME
  push_cast
  omega
theorem Jk:∀{W:List Wr} {kv:Kvl} (_:(kv.map (·.1)).Nodup) (n:Int),Eh kv n W=n - Bx kv+Bx (Gb kv W)
 | [],kv,h,n=>by show n=n - _+((Bx kv:Nat):Int);omega
 |x::W,kv,h,n=>by
  have h1:=Jk (W:=W) (Nr (x:=x) h) (n - LG kv x.k+H3 x);have h2:=Ae4 h x;show Eh (LF kv x) _ W=n - Bx kv+Bx (Gb (LF kv x) W);omega
def Hk:List Byt->List Wr->Bool
 |_,[]=>true
 |seen,x::W => !HA (decide (x.k∈seen)) x && Hk (seen++[x.k]) W
theorem Aj1{kv:Kvl}{room:Int}:∀{W:List Wr} {kv':Kvl} {seen:List Byt} {b:Int},(∀k,k∉seen->BJ kv' k=BJ kv k)->(kv'.map (·.1)).Nodup->goK kv room seen b W=if Hk seen W=true then(if room<Eh kv' b W then 7 else 0)else 1
 | [],kv',seen,b,_,_=>rfl
 |x::W,kv',seen,b,hk,hnd=>by
  rw[goK]
  by_cases hb:HA (decide (x.k∈seen)) x=true
  .have:¬Hk seen (x::W)=true:=by unfold Hk;rw[hb];simp
   rw[if_pos hb,if_neg this]
  .have hm:Hk seen (x::W)=Hk (seen++[x.k]) W:=by
    unfold Hk;rw[qec.2 hb];show(true && Hk (seen++[x.k]) W)=_;rw[qea];cases W <;> rfl
   have hs:x.k∉seen:=by
    unfold HA at hb;simp only[qcf,qaq,not_or]at hb;exact hb.1
   have ho:LG kv' x.k=LG kv x.k:=by unfold LG;rw[hk x.k hs]
   rw[if_neg hb,hm,Aj1 (kv':=LF kv' x) (seen:=seen++[x.k]) (fun k hk2=>?_) (Nr hnd)]
   .rw[<-ho];rfl
   .simp only[qat,qaa,not_or]at hk2;rw[Yr hnd,if_neg hk2.2,hk k hk2.1]
theorem Aj2{kv:Kvl}(h:(kv.map (·.1)).Nodup)(room:Int)(W:List Wr):Ef kv (Bx kv) room W=if 1000<W.length then 6 else if Hk [] W=true then(if room<Bx (Gb kv W)then 7 else 0)else 1:=by
 unfold Ef;rw[Aj1 (kv':=kv) (fun _ _=>rfl) h,Jk h];rw[show(Bx kv:Int) - Bx kv+Bx (Gb kv W)=Bx (Gb kv W)by omega]
theorem KL.right{kv:Kvl}{L:List Pr}(h:KL kv L)(room:Int)(W:List Wr):Ef kv (Bx L) room W=if 1000<W.length then 6 else if Hk [] W=true then(if room<Bx (Ep L W)then 7 else 0)else 1:=by
 rw[<-GS h.perm,Aj2 h.nd,GS (h.sets (W:=W)).perm]
theorem Tu:∀{W:List Wr} {seen:List Byt},Hk seen W=true->∀x∈W,x.Few/\1<=x.k.length
 | [],_,_,x,hx=>by cases hx
 |y::W,seen,h,x,hx=>by
  unfold Hk at h;simp only[qao,qd5]at h
  rcases qac.1 hx with rfl|hx
  .have hb:=h.1;unfold HA at hb;simp only[qdy,qct]at hb;refine⟨⟨by omega,by omega⟩,?_⟩
   have:0<x.k.length:=qbv.2 hb.2.1
   omega
  .exact Tu h.2 x hx
theorem Apt{L:List Pr}(h:OkP L){x:Wr}(hx:x.Few/\1<=x.k.length):OkP (doP L x):=fun p hp=>by
 unfold doP at hp
 split at hp
 .exact h p (Xj hp)
 .rcases Xi hp with rfl|hp
  .exact⟨hx.2,hx.1⟩
  .exact h p hp
theorem QD:∀{W:List Wr} {L:List Pr},OkP L->(∀x∈W,x.Few/\1<=x.k.length)->OkP (Ep L W)
 | [],_,h,_=>h
 |x::W,L,h,hx=>QD (W:=W) (Apt h (hx x (qaf ..))) fun y hy=>hx y (qaj _ hy)
theorem Ys(L:List Pr)(V W:List Wr):Ep L (V++W)=Ep (Ep L V) W:=qdp
theorem Vl:∀{W:List Wr} {L:List Pr} (_:Rising L) {k:Byt},(∀x∈W,x.k≠k)->DO (Ep L W) k=DO L k
 | [],_,_,_,_=>rfl
 |x::W,L,h,k,hk=>by
  show DO (Ep (doP L x) W) k=_;rw[Vl (Nv h x) fun y hy=>hk y (qaj _ hy),Acs h,if_neg fun e=>hk x (qaf ..) e.symm]
section
variable {w:World}{bp ba:Nat}{P:List Nat}
theorem Amm(h:PgAt w bp ba P)(k:Nat)(hk:P[k]?=some 0):Ret prog 99 #[ptr bp,.int .i64 (k:Int)] w fun v w'=>v=.int .i64 0/\PgAt w' bp ba (P.set k 1)/\Ext [ba] w w':=by
 obtain⟨w0,rfl⟩:=qD w;have hlen:=h.len;have hlt:=(qap.1 hk).1;have hh:Oe P (k:Int)=true:=by unfold Oe;simp;omega
 have H:=Ctx.start1 h.st;have hpz:∀{z:World},Ext [ba] w0 z->z.heap[bp]?=some (Bl TPg [.slice (some ⟨ba,0,none⟩) P.length P.length]):=fun{z} hz=>by rw[hz.block bp (Al h.hd) (by simpa using h.ne)];exact h.hd
 refine A8 (fn:=f99) func99 U [.pointer (some ⟨bp,0,none⟩),.int .i64 (k:Int)] U ?_;refine Ad (Ac U (qA (Ar (Ad (An U (Ae U (Aj qB (VY h (k:Int)) U ?_)))))));rintro v w ⟨rfl,rfl⟩;rw[hh];refine Ac U (qA (Ad (Ae U (Be U U (qA (Bz U (Ap (Aa (Ar (Ad ?_))))))))));refine An U (A7 U (Af DW U (Bd Gd U (Aq (hpz H.ext) (0+0)) ?_)));refine Ae U (Ca EQ Em U U ?_);refine Bd OX U (Mm (H.get at0) hk) (Be U U (qA (Av _ U ?_ ?_)))
 .intro h1;replace h1:=Bv h1;exact absurd U h1
 .intro h1;replace h1:=Bw h1;refine Ap (Aa (Ad (An U (A7 U (Af DW U (Bd Gd U (Aq (hpz H.ext) (0+0)) ?_))))));refine Ae U (Ca EQ Em U U ?_);refine Bf (.int _ _) Em U U U H at0 (by(simp;omega)) ?_;rintro w H;refine qA (Ad (Ac U (qA (A6 (AG (v:=(.int _ _)) U U U ?_)))));exact⟨rfl,h.set H.ext (by decide) (by rw[H.get at0];simp[stv]),H.ext⟩
end
section
variable {wb w w' w1 w2:World}{bs m1 m2 gen:Nat}{vd vj vp vt:Value}{root n T:Int}{kv:Kvl}{t0:List (Byt × Int)}{W:List Wr}{M:Mut}{l:List (Byt × Sv)}{z1 z2:Obj}
structure Sr(wb:World)(M:Mut)(bs m1 m2:Nat)(vd vj vp vt:Value)(gen:Nat)(root:Int)(kv:Kvl)(n:Int)(t0:List (Byt × Int))(W:List Wr)(l:List (Byt × Sv))(z1 z2:Obj)(w':World):Prop where
 H:Ctx wb [bs,m1,m2] w' [(bs,Bl CU (CN vd vj vp vt gen root m1 m2 (Eh kv n W) false)),(m1,z1),(m2,z2)]
 K:KvAt w' M l z1
 k:EE l=Gb kv W
 m:Ek str (mi (Ev t0 W)) z2
theorem P3:∀{W:List Wr} {t:List (Byt × Int)} {T:Int},(∀p∈t,0<=p.2/\p.2<=T)->0<=T->∀p∈Ev t W,0<=p.2/\p.2<=T+W.length
 | [],t,T,h,_=>by simpa[Ev]using h
 |x::W,t,T,h,hT=>fun p hp=>by
  have:=P3 (W:=W) (Te (k:=x.k) h hT).1 (by omega) p hp;rw[qav];omega
theorem Sr.step(S:Sr wb M bs m1 m2 vd vj vp vt gen root kv n t0 W l z1 z2 w)(hx:Ext [] w w1)(hS:∀x∈[bs,m1,m2],M x)(hMb:∀x,M x->x<wb.heap.size)(m:Wm)(hm:m.Ok w1 M)(hf:m.x.Few)(hT:0<=T/\T+W.length<=4000000)(ht:∀p∈t0,0<=p.2/\p.2<=T)(hn : -(200*T)<=n/\n<=200*T)(hkv:∀q∈kv,q.1.length<=32/\q.2.length<=128)(hW:∀x∈W,x.Few) :
  Ret prog 49 #[ptr bs,.agg (CE m).toArray] w1 fun v w'=>v=.tuple #[]/\∃l' z1' z2',Sr wb M bs m1 m2 vd vj vp vt gen root kv n t0 (W++[m.x]) l' z1' z2' w'/\Ext [bs,m1,m2] w1 w':=by
 have hn1:=Ji (m:=T) hkv hW hn.1 hn.2;have hb1:=S.H.ext.size;have hb2:=hx.size;refine(Aca (T:=T+W.length) (Ctx.startL (S.H.call hx).blk (S.H.call hx).nd) ⟨S.K.m,fun q hq=>⟨(S.K.ok q hq).1.call hx,(S.K.ok q hq).2⟩,S.K.few⟩ S.m hS (fun y hy=>by have:=hMb y hy;omega) hS m hm hf (P3 ht hT.1)).mono fun v w' ⟨hv,s,z1',z2',H7,K7,hsv,hM7⟩=>⟨hv,_,z1',z2',⟨?_,K7,?_,?_⟩,H7.ext⟩
 .rw[Np,<-S.k,<-Wl];exact⟨(S.H.call hx).ext.trans H7.ext,H7.blk,H7.nd,fun y hy => .inl (by simp only[qac,qam,or_false]at hy |-;rcases hy with rfl|rfl|rfl <;> simp)⟩
 .rw[Ach hsv,S.k,Tk]
 .rw[Qi];exact hM7
theorem Sr.call(S:Sr wb M bs m1 m2 vd vj vp vt gen root kv n t0 W l z1 z2 w)(hx:Ext [] w w'):Sr wb M bs m1 m2 vd vj vp vt gen root kv n t0 W l z1 z2 w' :=
 ⟨S.H.call hx,⟨S.K.m,fun q hq=>⟨(S.K.ok q hq).1.call hx,(S.K.ok q hq).2⟩,S.K.few⟩,S.k,S.m⟩
end
def toW(p:Pr):Wr:=⟨p.1,p.2,false⟩
def KH(P:List Nat)(l:List Int):List Nat:=l.foldl (fun P k=>P.set k.toNat 1) P
theorem Kb:∀(l:List Int) (P:List Nat),(KH P l).length=P.length
 | [],P=>rfl
 |k::l,P=>by rw[show KH P (k::l)=KH (P.set k.toNat 1) l from rfl,Kb l,qch]
theorem Ae5{P:List Nat}{l:List Int}{k:Int}:KH P (l++[k])=(KH P l).set k.toNat 1:=by simp[KH]
theorem Tv:∀(l:List Int) (P:List Nat) (x:Nat),(KH P l)[x]?=if(x:Int)∈l.map (fun k=>((k.toNat:Nat):Int))then P[x]?.map (fun _=>1)else P[x]?
 | [],P,x=>by simp[KH]
 |k::l,P,x=>by
  rw[show KH P (k::l)=KH (P.set k.toNat 1) l from rfl,Tv l,qc6]
  by_cases h:k.toNat=x
  .rw[if_pos h];have h2:(x:Int)∈(k::l).map (fun k=>((k.toNat:Nat):Int)):=by rw[qaz,h];exact qaf ..
   rw[if_pos h2]
   by_cases hl:k.toNat<P.length
   .rw[if_pos hl,qbe (by omega:x<P.length)]
    split <;> rfl
   .rw[if_neg hl,qbz (by omega:P.length<=x)]
    split <;> rfl
  .rw[if_neg h]
   have h2:(x:Int)∈(k::l).map (fun k=>((k.toNat:Nat):Int))↔(x:Int)∈l.map (fun k=>((k.toNat:Nat):Int)):=by
    rw[qaz,qac];exact⟨fun h5=>h5.resolve_left (by omega),.inr⟩
   by_cases h3:(x:Int)∈l.map (fun k=>((k.toNat:Nat):Int))
   .rw[if_pos h3,if_pos (h2.2 h3)]
   .rw[if_neg h3,if_neg fun h5=>h3 (h2.1 h5)]
theorem Vm(L:List Pr)(h:Rising L):KL (Gb [] (L.map toW)) L:=by
 have h1:=KL.nil.sets (W:=L.map toW)
 have h2:∀(B A:List Pr),Rising (A++B)->Ep A (B.map toW)=A++B:=by
  intro B
  induction B with
  |nil=>intro A _;simp[Ep]
  |cons p B ih =>
   intro A hA
   have hp:doP A (toW p)=A++[p]:=by
    show HU A p.1 p.2=_;have h3:=(Rising.append.1 hA).2.2;have:=QB (A:=A) (B:=[]) (k:=p.1) (v:=p.2) (L:=A) (fun q hq=>h3 q hq p (qaf ..)) (fun q hq=>by cases hq) (.inl (qa3 A).symm);exact this
   show Ep (doP A (toW p)) (B.map toW)=_;rw[hp,ih (A++[p]) (by simpa using hA)];simp
 rw[h2 L [] (by simpa using h)]at h1;exact h1
theorem Aj3{w:World}{bs bd bp ba bt m1 m2 gen m:Nat}{root:Int}{vj:Value}{A:Dev}{F:Mut}{o1 o2:Obj}{L:List Pr}{S:List Nat}(T:Tx w bt bd bp ba 362 A (List.replicate m 0) F [(bs,Bl CU (CN (ptr bd) vj (ptr bp) (ptr bt) gen root m1 m2 0 false)),(m1,o1),(m2,o2)])(hm1:Ek str (mv []) o1)(hm2:Ek str (mi []) o2)(td:Told 362 A (List.replicate m 0) root L S)(hS:∀x∈S,x<m)(hnd:S.Nodup)(hL:Rising L)(ho:OkP L){mx:Nat}(hfew:Few A mx)(hLn:L.length<=50000)(hmx:mx<=1000000000:=by decide):
  Ret prog 61 #[ptr bs] w fun v w'=>v=.int .i64 0/\∃l z1 z2,Ctx w [bs,m1,m2,ba] w' [(bs,Bl CU (CN (ptr bd) vj (ptr bp) (ptr bt) gen root m1 m2 (Eh [] 0 (L.map toW)) false)),(m1,z1),(m2,z2),(ba,Bl TSt ((KH (List.replicate m 0) (Jh (S.map fun x:Nat=>(x:Int)))).map stv))]/\KvAt w' (Old w) l z1/\EE l=Gb [] (L.map toW)/\Ek str ([]:List (Byt × Value)) z2:=by
 obtain⟨wI,rfl⟩:=qD w;have hs:=T.blk (bs,Bl CU (CN (ptr bd) vj (ptr bp) (ptr bt) gen root m1 m2 0 false)) (qaf ..);have hb1:=T.blk (m1,o1) (by simp);have hb2:=T.blk (m2,o2) (by simp);have hoffs:=T.off;have hndT:=T.nd;dsimp only at hs hb1 hb2;have T0:Tx wI bt bd bp ba 362 A (List.replicate m 0) F []:=⟨T.tr,T.pg,T.dev,(fun x hx=>by cases hx),List.Pairwise.nil,(fun x hx=>by cases hx),T.nbt,T.nbp,T.nba,T.lt⟩;have hbsa:bs≠ba:=(hoffs _ (qaf ..)).2.1;have hm1a:m1≠ba:=(hoffs (m1,o1) (by simp)).2.1;have hm2a:m2≠ba:=(hoffs (m2,o2) (by simp)).2.1;have hbpa:=T.pg.ne;have halt:=Al T.pg.st;have hlen:(List.replicate m 0).length=m:=qa8;have hw:=td.walk;have hsc:=td.scan [] [];have hnum:=td.num;have hSl:=td.len;have hr1:=td.rlo;have hr2:=td.rhi;have hPl:=T.pg.len;rw[Px]at hsc;obtain⟨ks,hks⟩:=qD (Jh (S.map fun x:Nat=>(x:Int)))
 have hperm:ks.Perm (S.map fun x:Nat=>(x:Int)):=by rw[hks];exact qce _ _
 have hkn:ks.Nodup:=hperm.nodup_iff.2 (qbs.2 (hnd.imp fun h e=>h (by omega)));have hkl:ks.length=S.length:=by rw[hperm.length_eq,qai]
 rw[<-hks]at hw |-;have hwalk:=fun(z:World) (Tz:Tx z bt bd bp ba 362 A (List.replicate m 0) F [])=>XJ Tz root hfew hmx;simp only[hw]at hwalk;have hscan:=fun(z:World) (P:List Nat) (hP:P.length=(List.replicate m 0).length) (Tz:Tx z bt bd bp ba 362 A P F [])=>Ajj Tz root none none 0 0 0 0 [] [] Rd.nil rfl Rd.nil rfl hfew hmx (by rw[hP];omega);have H:=Ctx.start wI [];refine A8 (fn:=f61) func61 U [ptr bs] U ?_;refine Ad (Ac U (qA (BV [([0,1,2,3,4,5,6,7],8),([9,10,11,12],13)] (fun z=>z.heap[bs]?=some (Bl CU (CN (ptr bd) vj (ptr bp) (ptr bt) gen root m1 m2 0 false))) [] mixed (H.drew.ext.to hs (by simp)) ?_)));refine AD U U (C1 U (Bm U (AC Kq U (BC JL U (fun _ hx=>(by rw[Aq hx];rfl)) ?_))))
 refine C1 U (Bm U (AC Jw U (BC DV U (fun _ hx=>(by rw[Aq hx];rfl)) ?_)));refine AV ?_;replace H:=H.drew;refine Aj qB (hwalk _ (T0.call H.ext)) U ?_;rintro v w ⟨a20,c20,rfl,R20,hn20,hc20,hx20⟩;have hsz20:=H.size;replace H:=H.call hx20;refine Ab (Bb (H.ext.to hs (by simp)) ?_);refine AD U U (Iv U (C4 U U (C4 U U (IC U U (AV (Ac U (Ab (Bb (H.ext.to hs (by simp)) ?_))))))));refine B4 (Ar (Ad (Ae U (Be U U (qA (Av _ U ?_ ?_))))))
 .intro h1;replace h1:=Bv h1;exact absurd U h1
 .intro h1;replace h1:=Bw h1;have hs2:=H.ext.to hs (by simp);have T2:=T0.call H.ext;have hx2:=H.ext;obtain⟨wA,hwA⟩:=qD w;rw[<-hwA]at H hs2 T2 hx2 R20 |-;clear H
  have hka:∀{z:World},Ext [ba] wA z->Rd z a20 1 (fun x:Int=>[.int .i64 x]) ks:=fun{z} hz=>by
   rcases hn20 with h|h
   .rw[h];exact Rd.nil
   .exact R20.ext hz fun h5=>by rw[qaa.1 h5]at h;omega
  have hpg:∀{z:World} {P:List Nat},Ctx wA [ba] z [(ba,Bl TSt (P.map stv))]->P.length=m->(∀s∈P,s<=3)->PgAt z bp ba P:=fun{z P} Hz hP h3=>⟨by rw[Hz.ext.block bp (Al T2.pg.hd) (by simpa using hbpa),T2.pg.hd,hlen,hP],Hz.get at0,hbpa,h3,by omega⟩;refine Ap (Aa (Ar (Ad (Ah U (AO FE U (Ae U (qA (AB (B6 4397778075844 (α:=Nat) (fun i=>[(28,.int .i64 (i:Int))]) (fun i w'=>i<=ks.length/\Ctx wA [ba] w' [(ba,Bl TSt ((KH (List.replicate m 0) (ks.take i)).map stv))]) (fun i=>ks.length - i) 0 U ?_ ?_ ?_)))))))))
  .exact⟨rfl,trivial⟩
  .exact⟨qak _,by rw[qdw];exact Ctx.start1 T2.pg.st⟩
  .rintro i j w1 ⟨hi,H⟩
   have hget:∀x:Nat,(KH (List.replicate m 0) (ks.take i))[x]?=if(x:Int)∈ks.take i then(if x<m then some 1 else none)else if x<m then some 0 else none:=fun x=>by
    rw[Tv]
    have h5:(ks.take i).map (fun k=>((k.toNat:Nat):Int))=ks.take i:=by
     have:∀k∈ks.take i,((k.toNat:Nat):Int)=id k:=fun k hk=>by
      obtain⟨y,hy,rfl⟩:=qah.1 (hperm.mem_iff.1 (qbq hk));simp
     rw[qc0 this,List.map_id]
    rw[h5,qee]
    split <;> split <;> rfl
   have h03:∀s∈KH (List.replicate m 0) (ks.take i),s<=3:=fun s hs5=>by
    obtain⟨x,hx5⟩:=qcg.1 hs5;rw[hget]at hx5
    split at hx5 <;> split at hx5 <;> simp at hx5 <;> omega
   have hPG:=hpg H (by rw[Kb,hlen]) h03;refine Ad (Bj U U (qA (Ar (Av _ U ?_ ?_))))
   .intro h2;replace h2:=AR h2;obtain⟨k,hk⟩:=AP (l:=ks) (i:=i);obtain⟨y,hy,hyk⟩:=qah.1 (hperm.mem_iff.1 (qad hk));have hym:=hS y hy
    have hno:(y:Int)∉ks.take i:=fun h5=>by
     obtain⟨j,hj⟩:=qcg.1 h5;have hj2:=(qap.1 hj).1;rw[qa0]at hj2;rw[qdt,if_pos (by omega)]at hj;obtain⟨q1,q2⟩:=qap.1 hj;obtain⟨q3,q4⟩:=qap.1 hk;exact qb9.1 hkn j i q1 q3 (by omega) (by rw[q2,q4,hyk])
    have h0:(KH (List.replicate m 0) (ks.take i))[y]?=some 0:=by rw[hget,if_neg hno,if_pos hym]
    refine Ap (Aa (Ar (AB (Ad (AY (hka H.ext) FE HN U U (hn:=by rfl) ?_)))));refine Bd DV U (((hka H.ext).one hk)) ?_;refine Ac U (qA (Ad (An U (A7 U (Af Jv U (Bd K2 U ((by rw[Aq (H.ext.to hs2 (by simpa using hbsa))];rfl)) ?_))))));refine Ae U ?_;rw[<-hyk];refine Aj qB (Amm hPG y h0) U ?_;rintro v w ⟨rfl,hP7,hx37⟩;replace H:Ctx wA [ba] w [(ba,Bl TSt ((KH (List.replicate m 0) (ks.take (i+1))).map stv))]:=⟨H.ext.trans hx37,(fun z hz=>by rw[qaa.1 hz,Bp hk,Ae5,<-hyk,qbp];exact hP7.st),qeo _ _,fun z hz => .inl (by rw[qaa.1 hz];exact qaa.2 rfl)⟩;refine Ac U (qA (Ad (Ae U (Be U U (qA (Av _ U ?_ ?_))))))
    .intro h3;replace h3:=Bv h3;exact absurd U h3
    .intro h3;replace h3:=Bw h3;refine Ap (AE (Aa (Au (Ay U U ?_))));refine Ae U (qA ?_);exact⟨i+1,rfl,⟨rfl,trivial⟩,⟨by omega,H⟩,by omega⟩
   .intro h2;replace h2:=AU h2;obtain rfl:i=ks.length:=by omega
    rw[qbf]at H hPG;obtain⟨T3,-⟩:=T2.page hPG H.ext;have hxA:Ext [ba] wI w1:=(hx2.mono (by simp)).trans H.ext;have hs3:=H.ext.to hs2 (by simpa using hbsa);have hP3:=H.get at0;obtain⟨wC,hwC⟩:=qD w1;rw[<-hwC]at T3 hxA hs3 hP3 |-;clear H hPG hpg hka;have H:=Ctx.start wC [];refine B2 (Aw (Aw (AZ (Aa (BV [([0,1,2,3,4,5,6,7],8),([9,10,11,12],13)] (fun z=>z.heap[bs]?=some (Bl CU (CN (ptr bd) vj (ptr bp) (ptr bt) gen root m1 m2 0 false))) [] mixed (H.drew.ext.to hs3 (by simp)) ?_)))));refine AD U U (C1 U (Bm U (AC Kq U (BC JL U (fun _ hx=>(by rw[Aq hx];rfl)) ?_))));refine C1 U (Bm U (AC Jw U (BC DV U (fun _ hx=>(by rw[Aq hx];rfl)) ?_)));refine AV ?_;replace H:=H.drew;refine Aj qB (hscan _ _ (Kb _ _) (T3.call H.ext)) U ?_;rw[Kb,hsc];dsimp only;rintro v w ⟨a51,c51,rfl,P51,hx51⟩;have hsz51:=H.size;replace H:=H.call hx51
    refine Ab (Bb (H.ext.to hs3 (by simp)) ?_);refine AD U U (Iv U (C4 U U (C4 U U (IC U U (AV (Ac U (Ab (Bb (H.ext.to hs3 (by simp)) ?_))))))));refine B4 (Ar (Ad (Ah U (AO Cb U (Ae U (qA (AB ?_)))))));obtain⟨ps,R9,hn9,hl9,hp9⟩:=P51.ex;have hpn:ps.length=L.length:=by rw[<-hl9,qai]
    obtain⟨wB,hwB⟩:=qD w;rw[<-hwB]at H R9 hp9 |-;have hCB:=H.ext;have hIB:Ext [ba] wI wB:=hxA.trans (hCB.mono (by simp));clear H
    have hne:∀y∈[bs,m1,m2],y∉[ba]:=fun y hy=>by
     simp only[qac,qam,or_false]at hy |-
     rcases hy with rfl|rfl|rfl
     .exact hbsa
     .exact hm1a
     .exact hm2a
    have hS3:∀y∈[bs,m1,m2],Old wI y:=fun y hy=>by
     simp only[qac,qam,or_false]at hy
     rcases hy with rfl|rfl|rfl
     .exact Al hs
     .exact Al hb1
     .exact Al hb2
    have hIBs:=hIB.size;have hwIC:wI.heap.size<=wC.heap.size:=hxA.size;have hk0:∀x∈L,(toW x).Few:=fun x hx=>⟨(ho x hx).2.1,(ho x hx).2.2⟩;refine B6 295075847585314898944 (α:=Nat × List (Byt × Sv) × Obj × Obj) (fun s=>[(56,.int .i64 (s.1:Int))]) (fun s w'=>s.1<=L.length/\Sr wB (Old wI) bs m1 m2 (ptr bd) vj (ptr bp) (ptr bt) gen root [] 0 [] ((L.map toW).take s.1) s.2.1 s.2.2.1 s.2.2.2 w') (fun s=>L.length - s.1) (0,[],o1,o2) U ?_ ?_ ?_
    .exact⟨rfl,trivial⟩
    .refine⟨qak _,Ctx.startL (L:=[(bs,Bl CU (CN (ptr bd) vj (ptr bp) (ptr bt) gen root m1 m2 0 false)),(m1,o1),(m2,o2)]) (fun y hy=>?_) hndT,⟨hm1,(fun q hq=>by cases hq),fun q hq=>by cases hq⟩,rfl,hm2⟩;simp only[qac,qam,or_false]at hy
     rcases hy with rfl|rfl|rfl
     .exact hIB.to hs (by simpa using hbsa)
     .exact hIB.to hb1 (by simpa using hm1a)
     .exact hIB.to hb2 (by simpa using hm2a)
    .rintro⟨i,li,z1,z2⟩ j w1 ⟨hi,C⟩;dsimp only at hi C;dsimp only;have H:=Ctx.start w1 [];refine Ad (Bj U U (qA (Ar (Av _ U ?_ ?_))))
     .intro h4;replace h4:=AR h4;obtain⟨q,hq⟩:=AP (l:=ps) (i:=i);have hok:=hp9 q (qad hq);have hqL:L[i]?=some (prI q.it):=by rw[<-hl9,qas,hq];rfl
      have hqW:(L.map toW)[i]?=some (toW (prI q.it)):=by rw[qas,hqL];rfl
      have hqf:=hk0 _ (qad hqL);have hoff:∀y∈[bs,m1,m2],¬wB.heap.size<=y:=fun y hy=>by have:=hS3 y hy;have h5:y<wI.heap.size:=this;omega
      have hk9:Rdx w1 (Old wI) q.ka q.it.key:=⟨Rdx.read hok.k C.H.ext (fun y hy=>by have h5:y<wI.heap.size:=hS3 y hy;show y<_;omega),hok.k.2.imp id fun h5 h6=>h5 (by have h7:_<wI.heap.size:=h6;show _<_;omega)⟩;have hv9:Rdx w1 (Old wI) q.va q.it.val:=⟨Rdx.read hok.v C.H.ext (fun y hy=>by have h5:y<wI.heap.size:=hS3 y hy;show y<_;omega),hok.v.2.imp id fun h5 h6=>h5 (by have h7:_<wI.heap.size:=h6;show _<_;omega)⟩
      have R9w:Rd w1 a51 2 Gz ps:=by
       rcases hn9 with h5|h5
       .rw[h5];exact Rd.nil
       .exact R9.ext C.H.ext fun h6=>h5 (by have h7:_<wI.heap.size:=hS3 _ h6;show _<_;omega)
      refine Ap (Aa (Ar (AB (Ad (AY R9w Cb CR U U ?_)))));refine EN _ Aa5 CR U U (R9w.row hq U) (Bi Fd H ?_);rintro b10 w - H;refine Bo CR U U U (by exact Gl q) H at0 U ?_;rintro w H;refine qA (Au (An U (Af Fa U (AH B1 U H at0 U (Af Ju U (AH B1 U H at0 U (B5 (CE ⟨q.ka,q.kc,q.va,q.vc,toW (prI q.it)⟩) PW F7 ?_)))))));refine Aj qB (C.step (T:=0) H.ext hS3 (fun y hy=>by have h5:y<wI.heap.size:=hy;omega) ⟨q.ka,q.kc,q.va,q.vc,toW (prI q.it)⟩ ⟨hk9.call H.ext,hv9.call H.ext,hok.kc,hok.vc⟩ hqf (by rw[qa0,qai];omega) (fun y hy=>by cases hy) (by omega) (fun y hy=>by cases hy) (fun x hx=>by obtain⟨y,hy,rfl⟩:=qah.1 (qbq hx);exact hk0 y hy)) U ?_;rintro v w7 ⟨rfl,l7,z17,z27,C7,-⟩;refine Ab (AE (Aa (Au (Ay U U ?_))))
      refine Ae U (qA ?_);exact⟨(i+1,l7,z17,z27),rfl,⟨rfl,trivial⟩,⟨by dsimp only;omega,by dsimp only;rw[Bp hqW];exact C7⟩,by dsimp only;omega⟩
     .intro h4;replace h4:=AU h4;obtain rfl:i=L.length:=by omega
      have hLt:(L.map toW).take L.length=L.map toW:=qa6 (by rw[qai];omega);rw[hLt]at C;refine B2 (Aw (Aw (AZ (Aa (Ad (An U (A7 U (Af Q6 U (Bd Aa7 U ((by rw[Aq (C.H.get at0)];rfl)) ?_)))))))));refine Uu (V:=str) (κ:=Byt) U Sd U (Ctx.startL C.H.blk C.H.nd) at2 C.m ?_;rintro o2' w hM2 HM2;refine qA (Ad (Ae U (Ac U (qA (A6 (AG (v:=(.int _ _)) U U U ?_))))))
      have hab:w.heap[ba]?=some (Bl TSt ((KH (List.replicate m 0) ks).map stv)):=by
       have h6:=(C.H.ext.trans HM2.ext).to (hCB.to hP3 (by simp)) (fun h5=>hne _ h5 (by simp));exact h6
      have hw1:Ext [bs,m1,m2] w1 w:=HM2.ext;have hKw:KvAt w (Old wI) li z1:=⟨C.K.m,(fun p hp=>⟨⟨Rdx.read (C.K.ok p hp).1 hw1 (fun y hy=>hS3 y hy),(C.K.ok p hp).1.2⟩,(C.K.ok p hp).2⟩),C.K.few⟩;refine⟨rfl,li,z1,o2',⟨(hIB.mono (by simp)).trans ((C.H.ext.trans hw1).mono (by simp +contextual)),fun y hy=>?_,?_,fun y hy => .inl ?_⟩,hKw,C.k,hM2⟩
      .simp only[qac,qam,or_false]at hy
       rcases hy with rfl|rfl|rfl|rfl
       .exact HM2.get at0
       .exact HM2.get at1
       .exact HM2.get at2
       .exact hab
      .have h5:=HM2.nd;have h6:=hne bs (by simp);have h7:=hne m1 (by simp);have h8:=hne m2 (by simp);simp only[qaa]at h6 h7 h8;simp only[List.set_cons_succ,qe2,qbh,qac,qam,or_false,forall_eq_or_imp,forall_eq,List.Pairwise.nil,and_true]at h5 |-;exact⟨⟨h5.1.1,h5.1.2,h6⟩,⟨h5.2.1,h7⟩,h8,fun _ h=>h.elim⟩
      .simp only[qac,qam,or_false]at hy |-
       rcases hy with rfl|rfl|rfl|rfl <;> simp
section
variable {w0 w:World}{b16 b11 b10 b8 b1 bd bs gen m1 m2:Nat}{F:Mut}{A:Dev}{N frm:Nat}{R:Rj}{V:Nat->Byt}{fv:List Value}{vj vp vt:Value}{root n r0:Int}{pq qq:Nat}{Y:List (Nat × Obj)}
theorem Aad(O:Own w0 w bd A F)(g:Good N frm A R)(h1:1<=R.seq)(h2:R.seq<=4611686018427387904) :
  Ret prog 34 #[ptr bd,.int .i64 (frm:Int),.int .i64 (R.size:Int),.int .i64 (R.first:Int),.int .u64 (R.seq:Int)] w fun v w'=>∃bj a n c,v=.tuple #[ptr bj,.slice a n c,.int .i64 0]/\Ext [] w w'/\w.heap.size<=bj/\Jone w0 w' bd bj A (jrK frm R R.L) F/\StrsF w.heap.size w' a n c R.L:=by
 have hr:=g.right h1 h2;have hr2:=hr;simp only[Et,qao,qaq]at hr2;have hhi:=O.dev.wf.hi;refine(Va (frm:Int) (R.size:Int) (R.first:Int) R.seq (by omega) (by omega) hhi g.on g.few (by decide) O.dev).mono fun v w' ⟨hx,h⟩=>?_
 rcases h with⟨h1,_⟩|⟨_,bj,a,n,c,hv,hb,hj,hs⟩
 .rw[hr]at h1;cases h1
 .have hsz:=O.ext.size;rw[g.open]at hj hs;exact⟨bj,a,n,c,hv,hx,hb,⟨O.call hx,hj,fun h5=>by have:=(O.own bj h5).2;omega,by omega⟩,hs⟩
abbrev Aae(b16 b11 b10 b8 b1 bs bd gen m1 m2 pq qq:Nat)(root n r0:Int)(fv:List Value)(vj vp vt vl:Value):List (Nat × Obj) :=
 [(b16,Bl 46 fv),(b11,Bl 69 [vl]),(b10,Bl 31 [ptr bs]),(b8,Bl Ajx (tpC r0 pq qq)),(b1,Bl 27 [ptr bd]),(bs,Bl CU (CN (ptr bd) vj vp vt gen root m1 m2 n false))]
theorem Aj4(O:Own w0 w bd A F)(hge:w0.heap.size<=bs/\w0.heap.size<=b11)(g:SG N A R V)(hR:R.size=360/\R.first=pq/\R.seq=qq/\1<=qq/\qq<=4611686018427387904)(Y:Fo w F (Aae b16 b11 b10 b8 b1 bs bd gen m1 m2 pq qq root n r0 fv vj vp vt (.slice none 0 0)++Y)) :
  Ret prog 62 #[ptr b1,ptr b8,ptr b10,ptr b11] w fun v w'=>v=.int .i64 0/\∃bj al nl cl,w.heap.size<=bj/\Jone w0 w' bd bj A (jrK 2 R R.L) F/\Ctx w [bs,b11] w' [(bs,Bl CU (CN (ptr bd) (ptr bj) vp vt gen root m1 m2 n false)),(b11,Bl 69 [.slice al nl cl])]/\StrsF w.heap.size w' al nl cl R.L:=by
 obtain⟨hz,rfl,rfl,hq1,hq2⟩:=hR;obtain⟨wI,rfl⟩:=qD w;have h1:=Fo.at Y (k:=4) rfl;have h10:=Fo.at Y (k:=2) rfl;have h8:=Fo.at Y (k:=3) rfl;have hs:=Fo.at Y (k:=5) rfl;have h11:=Fo.at Y (k:=1) rfl;have hnd:=Y.nd;simp only[qbx,qa7,qbh,qac,forall_eq_or_imp]at hnd;obtain⟨-,⟨n1,n2,n3,n4,-⟩,⟨n5,n6,n7,-⟩,⟨n8,n9,-⟩,⟨n10,-⟩,-⟩:=hnd;have hb1:b1∉[bs,b11]:=by simp only[qac,qam,or_false,not_or];exact⟨n10,fun h=>n3 h.symm⟩
 have hb10:b10∉[bs,b11]:=by simp only[qac,qam,or_false,not_or];exact⟨n7,fun h=>n1 h.symm⟩
 have hb8:b8∉[bs,b11]:=by simp only[qac,qam,or_false,not_or];exact⟨n9,fun h=>n2 h.symm⟩
 have hopen:=fun(w1:World) (O1:Own w0 w1 bd A F)=>Aad O1 g.good hq1 hq2;rw[hz]at hopen
 have H0:∀{z:World},Ext [] wI z->Ctx z [bs,b11] z [(bs,Bl CU (CN (ptr bd) vj vp vt gen root m1 m2 n false)),(b11,Bl 69 [.slice none 0 0])]:=fun hx=>Ctx.startL (L:=[(bs,Bl CU (CN (ptr bd) vj vp vt gen root m1 m2 n false)),(b11,Bl 69 [.slice none 0 0])]) (fun y hy=>by
  simp only[qac,qam,or_false]at hy
  rcases hy with rfl|rfl
  .exact hx.to hs (by simp)
  .exact hx.to h11 (by simp)) (List.Pairwise.cons (fun y hy=>by rw[qaa.1 hy];exact fun h=>n4 h.symm) (qeo _ _))
 have H:=H0 (Ext.refl [] wI);refine A8 (fn:=f62) func62 U [ptr b1,ptr b8,ptr b10,ptr b11] U ?_;refine Ad (Ac U (qA (BV [([0,1,2,3,4,5],6),([7,8,9,10,11,12],13),([],14),([],15)] (fun z=>(z.heap[b1]?=some (Bl 27 [ptr bd])/\z.heap[b10]?=some (Bl 31 [ptr bs])/\z.heap[b8]?=some (Bl Ajx (tpC r0 R.first R.seq)))) [13,14,15] mixed (⟨H.drew.ext.to h1 hb1,H.drew.ext.to h10 hb10,H.drew.ext.to h8 hb8⟩) ?_)));refine AD U U (BC F6 U (fun _ hx=>(by rw[Aq hx.2.1];rfl)) ?_);refine BC Dm U (fun _ hx=>(by rw[Aq hx.1];rfl)) ?_;refine AC NJ U (BC DV U (fun _ hx=>(by rw[Aq hx.2.2];rfl)) ?_);refine AC Kp U (BC GH U (fun _ hx=>(by rw[Aq hx.2.2];rfl)) ?_);refine AV ?_;replace H:=H.drew;refine Aj qB (hopen _ (O.call (Ext.drew [] wI))) U ?_;clear H;rintro v w6 ⟨bj,aj,nj,cj,rfl,hx6,hbj,J6,S6⟩;have E6:=(Ext.drew [] wI).trans hx6
 have k1:=E6.to h1 (by simp);have k10:=E6.to h10 (by simp);have k8:=E6.to h8 (by simp);have H:=H0 E6;refine Ab (Bb ((by exact⟨H.ext.to k1 hb1,H.ext.to k10 hb10,H.ext.to k8 hb8⟩)) ?_);refine AD U U (Iv U (C4 U U (C4 U U (C4 U U (Bm U (AC Mc U (AV (Bf (.pointer _) Anv U U U H at0 (by(simp;done)) ?_))))))));rintro w H;refine Ab (CQ U (AD U U ?_));refine AV (Bf (.slice _ _ _) sz_69 U U U H at1 (by decide) ?_);rintro w H;refine Ab (CQ U (AD U U ?_));refine AV (Ac U (Ab (CQ U (B4 (Ad (Ae U (Ac U (qA (A6 (AG (v:=(.int _ _)) U U U ?_))))))))))
 have hlt:∀y∈[bs,b11],y<wI.heap.size:=fun y hy=>by
  simp only[qac,qam,or_false]at hy
  rcases hy with rfl|rfl
  .exact Al hs
  .exact Al h11
 have hoff:∀y∈[bs,b11],¬Fj F bj y:=fun y hy h=>by
  have h5:=hlt y hy;have h6:wI.heap.size<=bj:=hbj
  rcases h with h|h
  .simp only[qac,qam,or_false]at hy
   rcases hy with rfl|rfl
   .exact Y.off (y,Bl CU (CN (ptr bd) vj vp vt gen root m1 m2 n false)) (by simp) h
   .exact Y.off (y,Bl 69 [.slice none 0 0]) (by simp) h
  .omega
 refine⟨rfl,bj,aj,nj,cj,hbj,J6.over H.ext hoff (fun y hy=>?_),⟨(E6.mono (by simp)).trans H.ext,H.blk,H.nd,fun y hy => .inl ?_⟩,S6.side H.ext hlt⟩
 .simp only[qac,qam,or_false]at hy
  rcases hy with rfl|rfl
  .exact hge.1
  .exact hge.2
 .simp only[qac,qam,or_false]at hy |-
  rcases hy with rfl|rfl
  .exact .inl U
  .exact .inr U
end
theorem Aaf{α:Type}{L:List (List α)}{i:Nat}{x:List α}(h:L[i]?=some x):(L.take (i+1)).flatten=(L.take i).flatten++x:=by
 rw[Bp h,qcv,qcw]
theorem Vn{α:Type}{L:List (List α)}{m:Nat}:(∀x∈L,x.length<=m)->L.flatten.length<=m*L.length:=by
 induction L with
 |nil=>intro _;simp
 |cons x L ih =>
  intro h;have h1:=ih fun y hy=>h y (qaj _ hy);have h2:=h x (qaf ..);rw[qe7,qan,qav,Nat.mul_add,qcj];omega
theorem Aj5{w:World}{b10 b11 bs m1 m2 gen N nl cl:Nat}{al:Option Addr}{vd vj vp vt:Value}{root n T:Int}{M:Mut}{l:List (Byt × Sv)}{o1 o2:Obj}{Ws:List (List Wr)}(hb11:w.heap[b11]?=some (Bl 69 [.slice al nl cl]))(hb10:w.heap[b10]?=some (Bl 31 [ptr bs]))(S:StrsF N w al nl cl (Ws.map opB))(hN:∀y∈[bs,m1,m2],y<N)(h10:b10∉[bs,m1,m2])(h11:b11∉[bs,m1,m2])(H:Ctx w [bs,m1,m2] w [(bs,Bl CU (CN vd vj vp vt gen root m1 m2 n false)),(m1,o1),(m2,o2)])(K:KvAt w M l o1)(hM2:Ek str (mi []) o2)(hS:∀y∈[bs,m1,m2],M y)(hMb:∀y,M y->y<w.heap.size)(hW:∀W∈Ws,W.length<=1000/\∀x∈W,x.Few)(hWn:Ws.length<=400)(hT:0<=T/\T<=1000000:=by omega)(hn: -(200*T)<=n/\n<=200*T:=by omega):
  Ret prog 63 #[ptr b11,ptr b10] w fun v w'=>v=.int .i64 0/\∃l' z1 z2,Sr w M bs m1 m2 vd vj vp vt gen root (EE l) n [] Ws.flatten l' z1 z2 w':=by
 obtain⟨wI,rfl⟩:=qD w;obtain⟨xs,RS,hxl,hxr,hxa,hxn⟩:=S.ex;have hnl:=S.num;have hxlen:xs.length=Ws.length:=by rw[<-qai (f:=opB),<-hxl,qai]
 rw[qai]at hnl;have hkv:=K.fewK
 have hall:∀i,(∀x∈(Ws.take i).flatten,x.Few)/\(Ws.take i).flatten.length<=400000:=fun i=>by
  refine⟨fun x hx=>?_,?_⟩
  .obtain⟨W,hW1,hW2⟩:=qe8.1 hx;exact(hW W (qbq hW1)).2 x hW2
  .have h5:=Vn (L:=Ws.take i) (m:=1000) fun W hW1=>(hW W (qbq hW1)).1;have h6:=List.length_take_le' i Ws;have h7:1000*(Ws.take i).length<=1000*400:=qb7 _ (by omega);omega
 have hx9:∀{z:World},Ext [bs,m1,m2] wI z->Rd z al 1 Aiq xs:=fun{z} hz=>by
  rcases hxa with h5|h5
  .rw[h5];exact Rd.nil
  .exact RS.ext hz fun h6=>by have:=hN _ h6;omega
 refine A8 (fn:=f63) func63 U [ptr b11,ptr b10] U (Ad (Ac U (qA (Ar (Ad (Bd Uy U ((by rw[Aq hb11];rfl)) ?_))))));refine AO EZ U (Ae U (qA (AB (B6 33554000 (α:=Nat × List (Byt × Sv) × Obj × Obj) (fun s=>[(9,.int .i64 (s.1:Int))]) (fun s w'=>s.1<=nl/\Sr wI M bs m1 m2 vd vj vp vt gen root (EE l) n [] (Ws.take s.1).flatten s.2.1 s.2.2.1 s.2.2.2 w') (fun s=>nl - s.1) (0,l,o1,o2) U ?_ ?_ ?_))))
 .exact⟨rfl,trivial⟩
 .exact⟨qak _,H,K,rfl,hM2⟩
 .clear H K hM2;rintro⟨i,li,z1,z2⟩ j w1 ⟨hi,C⟩;dsimp only at hi C;dsimp only;refine Ad (Bj U U (qA (Ar (Av _ U ?_ ?_))))
  .intro h1;replace h1:=AR h1;obtain⟨x,hx⟩:=AP (l:=xs) (i:=i);obtain⟨W,hWi⟩:=AP (l:=Ws) (i:=i)
   have hxW:x.2.1=opB W:=by
    have h5:(xs.map fun x=>x.2.1)[i]? = (Ws.map opB)[i]? := by rw[hxl]
    rw[qas,qas,hx,hWi]at h5;exact qbw h5
   obtain⟨hW1,hW2⟩:=hW W (qad hWi);have hxR:=hxr x (qad hx);obtain⟨xa,xb,xc⟩:=x;dsimp only at hxW;subst hxW
   have hRx:Rd w1 xa 1 B8 (opB W):=by
    rcases hxn _ (qad hx)with h5|h5
    .dsimp only at h5;rw[h5];exact Rd.nil
    .exact hxR.1.ext C.H.ext fun h6=>by have:=hN _ h6;dsimp only at h5 this;omega
   refine Ap (Aa (Ar (AB (Ad (AY (hx9 C.H.ext) EZ Gg U U ?_)))));refine Bd B1 U (((hx9 C.H.ext).one hx)) (Ak U (qA (Ad (Ah U (Aj qB (Apq xa xc (opB W).length W hRx U hxR.2 hW2 hW1) U ?_)))));rintro v w ⟨a14,c14,rfl,X14,hx14⟩;refine AO Cn U (Ae U (qA (AB ?_)));obtain⟨ps,R9,hn9,hl9,hp9⟩:=X14.ex;have hpn:ps.length=W.length:=by rw[<-hl9,qai]
   obtain⟨wB,hwB⟩:=qD w;rw[<-hwB]at hx14 R9 hp9 |-;have CB:=C.call hx14;have hsz1:=C.H.ext.size;have hfl:=hall i;refine B6 16711744 (α:=Nat × List (Byt × Sv) × Obj × Obj) (fun s=>[(16,.int .i64 (s.1:Int))]) (fun s w'=>s.1<=W.length/\Ext [bs,m1,m2] wB w'/\Sr wI M bs m1 m2 vd vj vp vt gen root (EE l) n [] ((Ws.take i).flatten++W.take s.1) s.2.1 s.2.2.1 s.2.2.2 w') (fun s=>W.length - s.1) (0,li,z1,z2) U ?_ ?_ ?_
   .exact⟨rfl,trivial⟩
   .exact⟨qak _,Ext.refl _ _,by rw[qdw,qa3];exact CB⟩
   .rintro⟨k,lk,y1,y2⟩ jj w2 ⟨hk,hE,D⟩;dsimp only at hk hE D;dsimp only;have H:=Ctx.start w2 [];refine Ad (Bj U U (qA (Ar (Av _ U ?_ ?_))))
    .intro h2;replace h2:=AR h2;obtain⟨q,hq⟩:=AP (l:=ps) (i:=k);have hok:=hp9 q (qad hq);have hqW:W[k]?=some q.x:=by rw[<-hl9,qas,hq];rfl
     have hqf:=hW2 _ (qad hqW);have hMw:∀y,M y->y<w1.heap.size:=fun y hy=>by have:=hMb y hy;omega
     have hok2:q.Ok w2 M:=⟨⟨Rdx.read hok.k hE fun y hy=>hMw y (hS y hy),hok.k.2.imp id fun h5 h6=>h5 (hMw _ h6)⟩,⟨Rdx.read hok.v hE fun y hy=>hMw y (hS y hy),hok.v.2.imp id fun h5 h6=>h5 (hMw _ h6)⟩,hok.kc,hok.vc⟩
     have R9w:Rd w2 a14 3 CE ps:=by
      rcases hn9 with h5|h5
      .rw[h5];exact Rd.nil
      .exact R9.ext hE fun h6=>h5 (hMw _ (hS _ h6))
     have hbs2:=D.H.get at0;refine Ap (Aa (Ar (AB (Ad (AY R9w Cn Cw U U ?_)))));refine EN _ RO Cw U U (R9w.row hq U) (Bi F7 H ?_);rintro b6 w - H;refine Bo Cw U U U (by exact FV q) H at0 U ?_;rintro w H;refine qA (Au (Bd F6 U ((by rw[Aq (H.ext.to (D.H.ext.to hb10 h10) (by simp))];rfl)) ?_));refine BO RO Cw U H at0 U (Aj qB (D.step (T:=T) H.ext hS hMb q (hok2.call H.ext) hqf (by rw[qan];have:=List.length_take_le' k W;omega) (fun y hy=>by cases hy) hn hkv (fun y hy=>(qat.1 hy).elim (hfl.1 y) fun h=>hW2 y (qbq h))) U ?_);rintro v w7 ⟨rfl,l7,z17,z27,C7,E7⟩;refine Ab (AE (Aa (Au (Ay U U ?_))));refine Ae U (qA ?_)
     refine⟨(k+1,l7,z17,z27),rfl,⟨rfl,trivial⟩,⟨by dsimp only;omega,?_,by dsimp only;rw[Bp hqW,<-qa1];exact C7⟩,by dsimp only;omega⟩;exact hE.trans ((H.ext.mono (by simp)).trans E7)
    .intro h2;replace h2:=AU h2;obtain rfl:k=W.length:=by omega
     refine B2 (Aw (Aw (AZ (AE (Aa (Au (Ay U U ?_)))))));refine Ae U (qA ?_);exact⟨(i+1,lk,y1,y2),rfl,⟨rfl,trivial⟩,⟨by dsimp only;omega,by dsimp only;rw[Aaf hWi];rw[qbf]at D;exact D⟩,by dsimp only;omega⟩
  .intro h1;replace h1:=AU h1;obtain rfl:i=nl:=by omega
   rw[qa6 (by omega)]at C;refine B2 (Aw (Aw (AZ (Aa (Ad (Ac U (qA (A6 (AG (v:=(.int _ _)) U U U ?_)))))))));exact⟨rfl,li,z1,z2,C⟩
end Go.Proofs.YtcpgbcabmcbclaaGreatDoor
