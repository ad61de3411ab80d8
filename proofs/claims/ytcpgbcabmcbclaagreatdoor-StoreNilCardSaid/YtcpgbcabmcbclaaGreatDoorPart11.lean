/- Part 11 of the proof. -/
import Derived.Test.YtcpgbcabmcbclaaGreatDoorPart10
set_option maxRecDepth 20000
set_option maxHeartbeats 4000000
namespace Go.Proofs.YtcpgbcabmcbclaaGreatDoor
open Go.GV Go.Proofs.Tryz
attribute [local irreducible] Ay W Wq Wt
theorem Xo{wK w1 wb w:World}{e9 e28:List (Nat × Obj)}{m:Wm}(h:m.Ok w1 (Mk wK e9))(hx:Ext [] w1 wb)(H:Ctx wb (e9.map (·.1)) w e28):m.Ok w (Mk wK e28) :=
 ⟨LU h.k hx H,LU h.v hx H,h.kc,h.vc⟩
theorem Wm.Ok.weak{w:World}{M M':Mut}{m:Wm}(h:m.Ok w M)(hM:∀x,M' x->M x):m.Ok w M':=⟨⟨h.k.1,h.k.2.imp id fun h2 h3=>h2 (hM _ h3)⟩,⟨h.v.1,h.v.2.imp id fun h2 h3=>h2 (hM _ h3)⟩,h.kc,h.vc⟩
theorem Afj(d:Bool):Up d<256:=by cases d <;> decide
theorem YU{X B:Byt}{f p:Nat}(hp:X.length=p)(hf:f<256):EB (X++(AZ f 1++B)) (p:Int) 1=.tuple #[.int .u64 (f:Int),.int .i64 ((p:Int)+1),.int .i64 0]:=by
 have hl:(X++(AZ f 1++B)).length=p+1+B.length:=by simp[AM,hp];omega
 have he:Cz (X++(AZ f 1++B)) (p:Int) 1=0:=by
  unfold Cz;rw[hl,qai (show(0:Int)<=(p:Int)by omega),qai (show(p:Int)<=((p+1+B.length:Nat):Int)by omega),qai (show(1:Int)<=((p+1+B.length:Nat):Int) - (p:Int)by omega)];rfl
 have hd:((X++(AZ f 1++B)).drop p).take 1=AZ f 1:=by
  subst hp;rw[List.drop_left,qce (by rw[AM];decide),qa3 (by rw[AM];decide)]
 have hn:numN (AZ f 1)=f:=by rw[Ea];exact qa6 (by simpa using hf)
 unfold EB;rw[he];show Value.tuple #[.int .u64 (numN (((X++(AZ f 1++B)).drop (p:Int).toNat).take 1):Int),_,_]=_;rw[qbi,hd,hn]
theorem Xp{L:List Wr}{i:Nat}{x:Wr}(h:L[i]?=some x):opB L=opB (L.take i)++(AZ (Up x.d) 1++(AZ x.k.length 2++(x.k++(AZ x.v.length 2++(x.v++opB (L.drop (i+1))))))):=by
 obtain⟨hlt,he⟩:=qar.1 h;have h1:L=L.take i++(x::L.drop (i+1)):=by rw[<-he,<-qep hlt,qbp]
 conv=>lhs;rw[h1]
 unfold opB;rw[qcg,qcc];simp[wrB]
structure Wcj(wK:World)(L:List Wr)(i:Nat)(a9:Option Addr)(n9 c9:Nat)(f9:List Value)(qs:List Wm)(w':World):Prop where
 ext:Ext [] wK w'
 blk:∀y∈ent a9 56 f9,w'.heap[y.1]?=some y.2/\wK.heap.size<=y.1
 os:OS a9 n9 c9 3 f9 (qs.flatMap CZ)
 eq:qs.map (·.x)=L.take i
 ok:∀m∈qs,m.Ok w' (Mk wK (ent a9 56 f9))
theorem Aid{w:World}(a:Option Addr)(c n:Nat)(L:List Wr)(R:Rd w a 1 B8 (opB L))(hn:(opB L).length=n)(hc:n<=c)(hL:∀x∈L,x.Few)(hl:L.length<=1000) :
  Ret prog 64 #[.slice a n c] w fun v w'=>∃a' c',v=.slice a' L.length c'/\Wrs w' (Old w) a' L.length c' L/\Ext [] w w':=by
 obtain⟨wI,rfl⟩:=qD w;have hOL:=N0 hL;refine Ax (fn:=f64) func64 U [.slice a n c] U ?_;refine Ad (Ai U (qA (Aq (Ad (Ac U (qA (AB (BE 4611686018427387900 (α:=Nat × Option Addr × Nat × Nat × List Value × List Wm) (fun s=>[(3,.int .i64 ((opB (L.take s.1)).length:Int)),(2,.slice s.2.1 s.2.2.1 s.2.2.2.1)]) (fun s w'=>s.1<=L.length/\s.2.2.1=s.1/\Wcj wI L s.1 s.2.1 s.2.2.1 s.2.2.2.1 s.2.2.2.2.1 s.2.2.2.2.2 w') (fun s=>L.length - s.1) (0,none,0,0,[],[]) U ?_ ?_ ?_))))))))
 .exact⟨rfl,rfl,trivial⟩
 .exact⟨qal _,rfl,Ext.refl _ _,(fun y hy=>by cases hy),OS.nil,rfl,fun m hm=>by cases hm⟩
 .rintro⟨i,a9,n9,c9,f9,qs⟩ j w1 ⟨hi,hn9,S⟩;dsimp only at hi hn9 S;dsimp only;have H:=Ctx.start w1 [];refine Aq (Ad (Ae U (Aj U (AP AO U (Bp U U (qA (Ar _ U ?_ ?_)))))))
  .intro h1;replace h1:=AV h1
   have hiL:i<L.length:=by
    by_cases h:i<L.length
    .exact h
    .rw[qa3 (by omega)]at h1;omega
   obtain⟨x,hx⟩:=AY (l:=L) (i:=i) (h:=hiL);have hcut:=Xp hx;have hxf:=hL x (qaf hx);unfold Wr.Few at hxf;obtain⟨p,hp⟩:=qD ((opB (L.take i)).length);rw[<-hp];have hlen:=qac List.length hcut;simp only[qam,AM]at hlen;have hv1:=YU (X:=opB (L.take i)) (B:=AZ x.k.length 2++(x.k++(AZ x.v.length 2++(x.v++opB (L.drop (i+1)))))) hp.symm (Afj x.d);rw[<-hcut]at hv1;have hcut2:opB L=(opB (L.take i)++(AZ (Up x.d) 1++(AZ x.k.length 2++x.k)))++(AZ x.v.length 2++(x.v++opB (L.drop (i+1)))):=by rw[hcut];simp
   have ht1:tbO (opB L) (p+1)=some (x.k,p+1+2+x.k.length):=by rw[hcut,<-qa1];exact Lz (by simp[AM,hp]) (by omega)
   have ht2:tbO (opB L) (p+1+2+x.k.length)=some (x.v,p+1+2+x.k.length+2+x.v.length):=by rw[hcut2];exact Lz (by simp[AM,hp];omega) (by omega)
   refine Ap (Aa (AB (Ad (Aj U (Ae U (Ah qB (Fq a c _ (opB L) (p:Int) 1 _ (R.ext0 S.ext) hn (by omega)) U ?_))))));rintro v w ⟨rfl,hx18⟩;replace H:=H.call hx18;rw[hv1];refine AL U (Ag U U (Ag U U (Ag U U (Ac U (Ac U (Ac U (qA (Ad (Aj U ?_)))))))));refine Ae U (Aj U (AP AO U (Rr U U U ?_)));rw[show min ((p:Int)+1) (n:Int)=((p+1:Nat):Int)by omega];refine Ah qB (Ft a c n (opB L) (p+1) _ ((R.ext0 S.ext).ext0 H.ext) hn hc) U ?_;rintro v w ⟨ka,k,kc,nx,e,rfl,hx28,Xk,hkc,-,-,h0,h1e⟩;have e0:e=0:=Classical.byContradiction (fun h=>by have h5:=(h1e h).1;rw[ht1]at h5;cases h5);subst e0;have hk2:=h0 rfl;rw[ht1]at hk2;obtain⟨rfl,rfl⟩:x.k=k/\p+1+2+x.k.length=nx:=(by injection hk2 with h;injection h with h2 h3;exact⟨h2,h3⟩);have hs28:=H.size;replace H:=H.call hx28
   refine AL U (Ag U U (Ag U U (Ag U U (Ai U (Ac U (Ac U (qA (Ad (Aj U ?_)))))))));refine Ae U (Aj U (AP AO U (Rr U U U ?_)));rw[show min (((p+1+2+x.k.length:Nat)):Int) (n:Int)=((p+1+2+x.k.length:Nat):Int)by omega];refine Ah qB (Ft a c n (opB L) (p+1+2+x.k.length) _ ((R.ext0 S.ext).ext0 H.ext) hn hc) U ?_;rintro v w ⟨va,vl,vc,nx2,e2,rfl,hx38,Xv,hvc,-,-,h0v,h1v⟩;have e0:e2=0:=Classical.byContradiction (fun h=>by have h5:=(h1v h).1;rw[ht2]at h5;cases h5);subst e0;have hv2:=h0v rfl;rw[ht2]at hv2;obtain⟨rfl,rfl⟩:x.v=vl/\p+1+2+x.k.length+2+x.v.length=nx2:=(by injection hv2 with h;injection h with h2 h3;exact⟨h2,h3⟩);have hs38:=H.size;replace Xk:=Xk.call hx38;replace H:=H.call hx38
   refine AL U (Ag U U (Ag U U (Ag U U (Ai U (Ac U (Ac U (qA (Aq (Ad (B5 (α:=Unit) 4499201580859392 (fun _=>[(51,.bool (false))]) (fun _ w'=>w=w') U ?_ ?_))))))))))
   .refine Ae U (AN U U (A4 U (AU 44 U ?_ ?_)))
    .intro h1;replace h1:=Bh h1;refine Ak U (Ak U (AR U (.bool _) U (A4 U (Ak U (Ak U (AR U (.bool _) U (Ab ?_)))))));exact⟨rfl,(),rfl,⟨qac Value.bool (by simp_all),trivial⟩,rfl⟩
    .intro h2;replace h2:=Bi h2;refine Ae U (AN U U (AJ U (.bool _) U (A4 U (AU 48 U ?_ ?_))))
     .intro h3;replace h3:=Bh h3;refine Ak U (Ak U (AR U (.bool _) U (Ab ?_)));exact⟨rfl,(),rfl,⟨qac Value.bool (by simp_all),trivial⟩,rfl⟩
     .intro h4;replace h4:=Bi h4;refine Ae U (AN U U (AJ U (.bool _) U (Ab ?_)));exact⟨rfl,(),rfl,⟨qac Value.bool (by rfl),trivial⟩,rfl⟩
   rintro - j51 w rfl;obtain⟨wb,rfl⟩:=qD w;have Hb:=H;clear H;obtain⟨im,him⟩:=qD (⟨ka,kc,va,vc,x⟩:Wm);have hblk:∀y∈ent a9 56 f9,wb.heap[y.1]?=some y.2:=fun y hy=>Hb.ext.to (S.blk y hy).1 (by simp);have H:=Ctx.startL hblk IZ;refine Br U (Ap (Aa (Ad (Aj U (Aj U (Aj U (Ae U (B6 U U ?_))))))));rw[show decide ((Up x.d:Int)=1)=x.d by(cases x.d <;> rfl)];refine Bw (CZ ⟨ka,kc,va,vc,x⟩) Tt GR ?_;rw[<-him];refine C3 (CZ im) (.agg _) FU EA GR U U U U H ?_;rintro b59 w - H;refine Df (L:=[]) FU FU EA by_56 GR U U U H S.os U (GI im) ?_;clear H;rintro a28 c28 f28 w2 H O28;refine Ai U (qA (A5 (Ae U (Ac U (Ab (AH (Aa ?_)))))));have hltm:∀y∈ent a9 56 f9,y.1<w1.heap.size:=fun y hy=>Al (S.blk y hy).1;have hKs:=S.ext.size
   have hmk:∀q,Mk wI (ent a9 56 f9) q->q<w1.heap.size:=fun q h=>by
    rcases h with h|h
    .have h6:q<wI.heap.size:=h;omega
    .obtain⟨y,hy,he⟩:=qak.1 h;have h6:=hltm y hy;have h7:y.1=q:=he;omega
   have himk:im.Ok wb (Mk wI (ent a9 56 f9)):=by
    subst him;exact⟨⟨Xk.1,Xk.2.imp id fun h5 h=>h5 (qas (hmk _ h) hs28)⟩,⟨Xv.1,Xv.2.imp id fun h5 h=>h5 (qas (hmk _ h) hs38)⟩,hkc,hvc⟩
   have hnext:p+1+2+x.k.length+2+x.v.length=(opB (L.take (i+1))).length:=by rw[Uq hx,qam,WS,<-hp];omega
   rw[hnext];refine⟨(i+1,a28,n9+1,c28,f28,qs++[im]),rfl,⟨rfl,rfl,trivial⟩,⟨by dsimp only;omega,by dsimp only;omega,⟨?_,?_,?_,?_,?_⟩⟩,by dsimp only;omega⟩
   .exact(S.ext.trans Hb.ext).then H.ext fun y hy=>by
     obtain⟨z,hz,he⟩:=qak.1 hy;rw[<-he];exact .inr (S.blk z hz).2
   .intro y hy;refine⟨H.blk y hy,?_⟩
    rcases H.own y hy with h|h
    .obtain⟨z,hz,he⟩:=qak.1 h;rw[<-he];exact(S.blk z hz).2
    .have:=Hb.size;omega
   .dsimp only;rw[qcg,qdm];exact O28
   .dsimp only;rw[qa0,S.eq,Bt hx,him];rfl
   .intro m hm;dsimp only at hm |-
    rcases qat.1 hm with hm|hm
    .exact Xo (S.ok m hm) Hb.ext H
    .rw[qab.1 hm];exact Xo himk (Ext.refl _ _) H
  .intro h1;replace h1:=AW h1
   have hiL:i=L.length:=by
    by_cases h:i<L.length
    .obtain⟨x,hx⟩:=AY (l:=L) (i:=i) (h:=h);have hlen:=qac List.length (Xp hx);simp only[qam,AM]at hlen;omega
    .omega
   subst hiL;have he:=S.eq;rw[qbf]at he;refine B9 (A6 (A6 (Bd (Aa (Ad (Aj U (Ai U (qA (Aw (AE (v:=(.slice _ _ _)) U U U ?_))))))))));subst hn9;have hq:qs.length=L.length:=by rw[<-he,qan]
   refine⟨a9,c9,rfl,⟨⟨qs,OS.rd S.os (fun y hy=>(S.blk y hy).1) (fun _ _=>rfl) (by decide),?_,he,fun m hm=>(S.ok m hm).weak fun x hx => .inl hx⟩,rfl,S.os.le⟩,S.ext⟩
   cases ha:a9 with
   |none =>
    left;have h5:=S.os.none' ha;have h6:=S.os.le;exact qa8 (by omega)
   |some q =>
    right;intro h;have h5:=(S.blk (q.block,Bl 56 f9) (by rw[ha];exact qab.2 rfl)).2;have h6:q.block<wI.heap.size:=h;dsimp only at h5;omega
theorem U9(P:List Nat)(x:Nat):((P.map Fv)[x]?=some 1\/(P.map Fv)[x]?=some 2)↔(P[x]?=some 1\/P[x]?=some 2):=by
 rw[qax]
 cases P[x]? with
 |none=>simp
 |some s =>
  simp only[qbd,qba];unfold Fv
  split
  .omega
  .split
   .omega
   .exact Iff.rfl
theorem TreeAt.settle{fr:Nat}{A:Dev}{P:List Nat}{root:Int}{L:List Pr}(T:TreeAt fr A P root L):TreeAt fr A (P.map Fv) root L:=by
 obtain⟨S,h1,h2,h3⟩:=T.lies;exact⟨⟨S,h1,h2,fun x=>(h3 x).trans (U9 P x).symm⟩,T.rise,T.ok⟩
theorem LV{P:List Nat}(hok:∀s∈P,s<=3):∀k,k<=P.length->(Uv P k).length+Dt ((P.map Fv).take k)=k
 |0,_=>rfl
 |k+1,hk=>by
  have ih:=LV hok k (by omega);obtain⟨s,hs⟩:=AY (l:=P) (i:=k);have hs3:=hok s (qaf hs);have hq:(P.map Fv)[k]?=some (Fv s):=by rw[qax,hs];rfl
  rw[VI,qam,TX hq];have hb:Pg P k=(decide (s=1) || decide (s=2)):=by unfold Pg;rw[hs];simp
  rw[hb];have h4:s=0\/s=1\/s=2\/s=3:=by omega
  rcases h4 with rfl|rfl|rfl|rfl
  .rw[if_neg (by decide),if_pos (by decide)];simp only[qbt];omega
  .rw[if_pos (by decide),if_neg (by decide)];simp only[qaw,qbt];omega
  .rw[if_pos (by decide),if_neg (by decide)];simp only[qaw,qbt];omega
  .rw[if_neg (by decide),if_pos (by decide)];simp only[qbt];omega
theorem UA{P S:List Nat}(hok:∀s∈P,s<=3)(hnd:S.Nodup)(hS:∀x:Nat,x∈S↔P[x]?=some 1\/P[x]?=some 2):S.length+Dt (P.map Fv)=P.length:=by
 have h1:=LV hok P.length (qae _);rw[qa3 (by rw[qan];omega)]at h1
 have hperm:S.Perm (Uv P P.length):=by
  refine(qe2 hnd (List.nodup_range.filter _)).2 fun x=>?_;rw[qbg,qdk,hS];unfold Pg;rw[qcp,qaq,qaq];refine⟨fun h=>⟨h.elim (fun h=>(qar.1 h).1) fun h=>(qar.1 h).1,h⟩,And.right⟩
 have h2:=hperm.length_eq;omega
theorem YV{s:St7}{L:List Pr}(h:Rising L):(Ph s L).length<=L.length+1:=by
 unfold Ph
 split
 .split
  .exact Nat.le_succ_of_le (TP _ _)
  .omega
 .split
  .exact TO _ _ _ h
  .omega
structure Std(w0 w:World)(bx bt bd bp ba n:Nat)(root:Int)(L:List Pr)(i:Nat)(A:Dev)(P:List Nat)(F:Mut):Prop where
 D:Dk w bx bt bd bp ba A P F
 T:TreeAt 10 A P root L
 on:A.on=true
 left:A.left = -1
 num:P.length=n
 blen:A.B.length=10+n
 few:Few A (40*i)
 li:L.length<=i
 new:∀x,TM F ba bt bp [] x->w0.heap.size<=x
 hx:Ext [] w0 w
section
variable {w0 w w':World}{bx bt bd bp ba n:Nat}{root:Int}{L:List Pr}{i:Nat}{A:Dev}{P:List Nat}{F:Mut}
theorem Std.call(s:Std w0 w bx bt bd bp ba n root L i A P F)(hx:Ext [] w w'):Std w0 w' bx bt bd bp ba n root L i A P F :=
 ⟨s.D.call hx,s.T,s.on,s.left,s.num,s.blen,s.few,s.li,s.new,s.hx.trans hx⟩
theorem Std.hl(s:Std w0 w bx bt bd bp ba n root L i A P F):10+P.length<=A.B.length:=by rw[s.num,s.blen];exact qae _
theorem Std.settle(s:Std w0 w bx bt bd bp ba n root L i A P F)(h:PgAt w' bp ba (P.map Fv))(hx:Ext [ba] w w'):Std w0 w' bx bt bd bp ba n root L i A (P.map Fv) F/\Grown (TM F ba bt bp []) (TM F ba bt bp []) w w':=by
 obtain⟨h1,h2⟩:=s.D.T.page h hx;exact⟨⟨s.D.step h1 h2,s.T.settle,s.on,s.left,by rw[qan];exact s.num,s.blen,s.few,s.li,s.new,h2.1.new s.hx s.new⟩,h2⟩
theorem Std.told(s:Std w0 w bx bt bd bp ba n root L i A P F)(hn:n<=2000):∃S,Told 10 A P root L S/\S.Nodup/\(∀x:Nat,x∈S↔P[x]?=some 1\/P[x]?=some 2):=s.T.told s.on s.hl (by rw[s.num];exact hn)
theorem Std.free(s:Std w0 w bx bt bd bp ba n root L i A P F)(hn:n<=2000):n<=Dt (P.map Fv)+2*i:=by
 obtain⟨S,td,hnd,hS⟩:=s.told hn;have h1:=UA s.D.T.pg.ok hnd hS;have h2:=td.len;have h3:=s.li;have h4:=s.num;omega
theorem Std.step{root':Int}{L':List Pr}{A':Dev}{P':List Nat}{F':Mut}(s:Std w0 w bx bt bd bp ba n root L i A P F)(D':Dk w' bx bt bd bp ba A' P' F')(g:Grown (TM F ba bt bp []) (TM F' ba bt bp []) w w')(h:Stepped 10 A P root' L' A' P' (40*i+40))(hl:L'.length<=L.length+1) :
  Std w0 w' bx bt bd bp ba n root' L' (i+1) A' P' F':=by
 obtain⟨T',af,on',few'⟩:=h;refine⟨D',T',on',af.left s.left,af.len.trans s.num,af.blen.trans s.blen,few'.mono (by omega),?_,fun x hx=>?_,g.1.new s.hx s.new⟩
 .have:=s.li;omega
 .exact(g.2 x hx).elim (s.new x) fun h=>qav s.hx.size h
theorem Std.does{t:St7}{v:Value}(s:Std w0 w bx bt bd bp ba n root L i A P F)(h:Does w bx bt bd bp ba A P F (Ph t L) (40*i) v w') :
  ∃root' a' c' A' P' F',v=.tuple #[.int .i64 root',.slice a' (Ph t L).length c',.bool true]/\Std w0 w' bx bt bd bp ba n root' (Ph t L) (i+1) A' P' F'/\Prs w' (TM F' ba bt bp []) a' (Ph t L).length c' (Ph t L)/\Grown (TM F ba bt bp []) (TM F' ba bt bp []) w w'/\After 10 A P A' P':=by
 obtain⟨root',a',c',A',P',F',hv,D',g,st,PL'⟩:=h.ex;exact⟨root',a',c',A',P',F',hv,s.step D' g st (YV s.T.rise),PL',g,st.aft⟩
theorem Std.put(s:Std w0 w bx bt bd bp ba n root L i A P F)(hn:n<=2000)(hi:i<=1000)(hfree:24<=Dt P){ka va:Option Addr}{kc vc:Nat}{key val:Byt}(Rk:Rdx w (TM F ba bt bp []) ka key)(Rv:Rdx w (TM F ba bt bp []) va val)(hkc:key.length<=kc)(hvc:val.length<=vc)(hk:Dl key.length val.length=true) :
  Ret prog 120 #[ptr bt,.int .i64 root,.slice ka key.length kc,.slice va val.length vc] w fun v w'=>∃root' A' P' F',v=.tuple #[.int .i64 root',.int .i64 0]/\Std w0 w' bx bt bd bp ba n root' (H8 L key val) (i+1) A' P' F'/\After 10 A P A' P'/\Grown (TM F ba bt bp []) (TM F' ba bt bp []) w w':=by
 obtain⟨S,td,-,-⟩:=s.told hn;have hlo:=td.rlo;have hhi:=td.rhi;have hnum:=s.num;have hkl:key.length<=32:=by unfold Dl at hk;simp only[qao,qaq]at hk;omega
 have hgood:=Aco (key:=key) (val:=val) s.T s.on s.hl s.left hfree s.few
 rcases hgood with⟨h,_⟩|⟨_,h1,h4⟩
 .rw[hk]at h;cases h
 .refine(Ae1 s.D.T root ka va kc vc _ _ key val Rk Rv U U hkc hvc s.few (by rw[h1];decide)).mono fun v w' ⟨F',hv,T',g⟩=>?_;rw[h1]at hv;exact⟨_,_,_,F',hv,s.step (s.D.step T' g) g h4 (TO _ _ _ s.T.rise),h4.aft,g⟩
theorem Std.cut(s:Std w0 w bx bt bd bp ba n root L i A P F)(hn:n<=2000)(hi:i<=1000)(hfree:24<=Dt P){ka:Option Addr}{kc:Nat}{key:Byt}(Rk:Rdx w (TM F ba bt bp []) ka key)(hk:Dl key.length 0=true) :
  Ret prog 121 #[ptr bt,.int .i64 root,.slice ka key.length kc] w fun v w'=>∃root' A' P' F',v=.tuple #[.int .i64 root',.bool (Fe L key).isSome,.int .i64 0]/\Std w0 w' bx bt bd bp ba n root' (IG L key) (i+1) A' P' F'/\After 10 A P A' P'/\((Fe L key).isSome=false->root'=root)/\Grown (TM F ba bt bp []) (TM F' ba bt bp []) w w':=by
 obtain⟨S,td,-,-⟩:=s.told hn;have hlo:=td.rlo;have hhi:=td.rhi;have hnum:=s.num;have hkl:key.length<=32:=by unfold Dl at hk;simp only[qao,qaq]at hk;omega
 have hgood:=Acp (key:=key) s.T s.on s.hl s.left hfree s.few
 rcases hgood with⟨h,_⟩|⟨_,h1,h2,h3,h4⟩
 .rw[hk]at h;cases h
 .refine(Ae2 s.D.T root ka kc _ key Rk U s.few (by rw[h1];decide)).mono fun v w' ⟨F',hv,T',g⟩=>?_;rw[h1,h2]at hv;exact⟨_,_,_,F',hv,s.step (s.D.step T' g) g h4 (Nat.le_succ_of_le (TP _ _)),h4.aft,h3,g⟩
theorem Std.get(s:Std w0 w bx bt bd bp ba n root L i A P F)(hn:n<=2000)(hi:i<=1000){ka:Option Addr}{kc:Nat}{key:Byt}(Rk:Rd w ka 1 B8 key) :
  Ret prog 148 #[ptr bt,.int .i64 root,.slice ka key.length kc] w fun v w'=>∃va vc u b e,v=.tuple #[.slice va (List.length u) vc,.bool b,.int .i64 e]/\Ext [] w w'/\Rdx w' (TM F ba bt bp []) va u/\(Dl key.length 0=true->e=0/\b=(Fe L key).isSome/\u=(Fe L key).getD []):=by
 obtain⟨S,td,-,-⟩:=s.told hn;have hlo:=td.rlo;have hhi:=td.rhi;have hnum:=s.num;have hg:=Acq (key:=key) s.T s.on s.hl;refine(WK s.D.T (by omega) root ⟨by omega,by omega⟩ ka kc _ key Rk U s.few).mono fun v w' ⟨va,vc,u,hv,hx,X,hc,hu⟩=>?_;refine⟨va,vc,u,_,_,hv,hx,⟨X.1,X.2.imp id fun h hm=>h (s.D.T.mlt _ hm)⟩,fun hk=>?_⟩;rw[hu,hg,if_pos hk];exact⟨rfl,rfl,rfl⟩
end
structure Sm.In(w:World)(m:Sm):Prop where
 k:Rd w m.ka 1 B8 m.s.key
 v:Rd w m.va 1 B8 m.s.val
 kc:m.s.key.length<=m.kc
 vc:m.s.val.length<=m.vc
theorem Rdx.of0{w0 w:World}{M:Mut}{a:Option Addr}{l:Byt}(R:Rd w0 a 1 B8 l)(hx:Ext [] w0 w)(hM:∀x,M x->w0.heap.size<=x):Rdx w M a l:=by
 refine⟨R.ext0 hx,?_⟩
 rcases Si R (fun _ _=>rfl)with h|h
 .exact .inl h
 .exact .inr fun hm=>by have:=hM _ hm;omega
theorem Sm.In.ok{w0 w:World}{M:Mut}{m:Sm}(h:m.In w0)(hk:m.s.key.length<=200)(hv:m.s.val.length<=500)(hx:Ext [] w0 w)(hM:∀x,M x->w0.heap.size<=x):m.Ok w M :=
 ⟨.of0 h.k hx hM,.of0 h.v hx hM,h.kc,h.vc,hk,hv⟩
def smallS(m:Sm):Prop:=m.s.key.length<=200/\m.s.val.length<=500
def bigS(m:Sm):Bool:=decide (200<m.s.key.length) || decide (500<m.s.val.length)
def heavy7B(l:List Sm):Bool:=(l.take 500).any bigS || decide (300<l.length)
structure Sunk(A0:Dev)(P0:List Nat)(root:Int)(L:List Pr)(A:Dev)(P:List Nat):Prop where
 T:TreeAt 10 A0 P0 root L
 back:P.map Q0=P0
 blk:∀q,(∀x:Nat,P0[x]?=some 0->q≠10+x)->A.B.getD q (zeros,[])=A0.B.getD q (zeros,[])
 blen:A.B.length=A0.B.length
section
variable {A0 A A':Dev}{P0 P P':List Nat}{root:Int}{L:List Pr}
theorem Sunk.len(s:Sunk A0 P0 root L A P):P.length=P0.length:=by rw[<-s.back,qan]
theorem Sunk.pages(s:Sunk A0 P0 root L A P):∃S,Root (RD A0 10) root L S/\S.Nodup/\(∀x:Nat,x∈S↔P0[x]?=some 1\/P0[x]?=some 2)/\(∀x∈S,x<P0.length)/\∀x∈S,A.B.getD (10+x) (zeros,[])=A0.B.getD (10+x) (zeros,[]):=by
 obtain⟨S,h1,h2,h3⟩:=s.T.lies;refine⟨S,h1,h2,h3,fun x hx=>((h3 x).1 hx).elim (fun h=>(qar.1 h).1) fun h=>(qar.1 h).1,fun x hx=>s.blk _ fun y hy he=>?_⟩;obtain rfl:x=y:=by omega
 rcases(h3 x).1 hx with h|h
 .rw[hy]at h;cases h
 .rw[hy]at h;cases h
theorem Sunk.told(s:Sunk A0 P0 root L A P)(hon:A.on=true)(hl:10+P.length<=A.B.length)(hP:P.length<=2000):∃S,Told 10 A P root L S:=by
 obtain⟨S,h1,h2,h3,h4,h5⟩:=s.pages;exact⟨S,Go.Proofs.YtcpgbcabmcbclaaGreatDoor.told (h1.frame fun x hx=>by unfold RD;rw[h5 x hx]) hon hl hP h2 (fun x hx=>by rw[s.len];exact h4 x hx) s.T.rise⟩
theorem Sunk.after(s:Sunk A0 P0 root L A P)(af:After 10 A P A' P'):Sunk A0 P0 root L A' P' :=
 ⟨s.T,af.back.trans s.back,fun q hq=>(af.blk q fun x hx=>hq x (by rw[<-s.back,qax,hx];rfl)).trans (s.blk q hq),af.blen.trans s.blen⟩
theorem Sunk.start(T:TreeAt 10 A P root L)(h01:∀s∈P,s=0\/s=1):Sunk A P root L A P:=by
 refine⟨T,?_,fun q _=>rfl,rfl⟩
 have h:∀s∈P,Q0 s=id s:=fun s hs=>by rcases h01 s hs with rfl|rfl <;> rfl
 rw[qc7 h,List.map_id]
theorem Sunk.calm(s:Sunk A0 P0 root L A P):TreeAt 10 A P0 root L:=by
 obtain⟨S,h1,h2,h3,h4,h5⟩:=s.pages;exact⟨⟨S,h1.frame fun x hx=>by unfold RD;rw[h5 x hx],h2,h3⟩,s.T.rise,s.T.ok⟩
theorem Sunk.crash(s:Sunk A0 P0 root L A P)(hs:∀p∈A0.B,p.2=[])(hl:10+P0.length<=A0.B.length)(picks:List Int):TreeAt 10 (onD (Kb A) picks) P0 root L:=by
 obtain⟨S,h1,h2,h3,h4,h5⟩:=s.pages;refine⟨⟨S,h1.frame fun x hx=>?_,h2,h3⟩,s.T.rise,s.T.ok⟩;have hx4:=h4 x hx;have hb:=s.blen;obtain⟨p,hp⟩:=AY (l:=A.B) (i:=10+x);have hp5:=h5 x hx;rw[qa5,hp]at hp5;have hp6:p=A0.B.getD (10+x) (zeros,[]):=hp5;have hp2:p.2=[]:=by rw[hp6];exact hs _ (Ll)
 have hk:=OJ A.B picks hp;rw[if_pos hp2]at hk;unfold RD;rw[<-hp6,show(onD (Kb A) picks).B=DS A.B picks from rfl,qa5,hk];obtain⟨p1,p2⟩:=p;obtain rfl:p2=[]:=hp2;rfl
end
def Tells(A:Dev)(e:Int):Prop:=A.on = !decide (e=8)
theorem Tells.ok{A:Dev}(h:A.on=true){e:Int}(he:e≠8):Tells A e:=by
 unfold Tells;rw[h,qag he];rfl
theorem Tells.on{A:Dev}{e:Int}(h:Tells A e)(he:e≠8):A.on=true:=by
 unfold Tells at h;rw[h,qag he];rfl
theorem Tells.off{A:Dev}(h:Tells A 8):A.on=false:=by
 unfold Tells at h;rw[h];rfl
structure Res(A:Dev)(P:List Nat)(L':List Pr)(e r':Int)(A':Dev)(P':List Nat)(mx:Nat):Prop where
 aft:After 10 A P A' P'
 few:Few A' mx
 out:(e=0/\A'.on=true/\TreeAt 10 A' P' r' L')\/(e=8/\A.left ≠ -1/\A'.on=false/\P'=P)\/(e=7/\Dt P<17/\A'.on=true/\P'=P)
section
variable {A:Dev}{P:List Nat}{root:Int}{L:List Pr}{key val:Byt}{mx:Nat}
end
def Hf(i:Bool):List It->List It->List (List It)->List (List It) × List It
 | [],part,l=>(l,part)
 |x::M,part,l=>if 503<AQ i part+Cn i x then Hf i M [x] (l++[part])else Hf i M (part++[x]) l
def QQ(q:List It):List It:=q.drop (q.length - 1)
def fixL(i:Bool)(l:List (List It))(part:List It):List (List It) :=
 if i=true/\part.length=1/\l≠[]then l.take (l.length - 1)++[(l.getLastD []).take ((l.getLastD []).length - 1)]++[QQ (l.getLastD [])++part]else l++[part]
def Fx(i:Bool)(M:List It):List (List It):=fixL i (Hf i M [] []).1 (Hf i M [] []).2
def MF(i:Bool):Nat:=if i=true then 38 else 164
structure Pk(i:Bool)(l:List (List It))(part:List It):Prop where
 full:∀q∈l,AQ i q<=503/\503<AQ i q+MF i
 le:AQ i part<=503
 ne:l≠[]->part≠[]
 num:503*l.length+AQ i part<=2*(AQ i l.flatten+AQ i part)
 sz:∀q∈l,∀x∈q,Cn i x<=MF i
section
variable {i:Bool}{l:List (List It)}{part M:List It}
theorem Xq(i:Bool):MF i<=164:=by unfold MF;split <;> omega
theorem S8(i:Bool)(x:It):AQ i [x]=Cn i x:=by rw[Cr];rfl
theorem Aie(i:Bool):Pk i [] []:=⟨(fun q h=>by cases h),qal _,(fun h=>absurd rfl h),qae _,fun q h=>by cases h⟩
theorem KE:∀{M:List It} {part:List It} {l:List (List It)},Pk i l part->(∀x∈part,Cn i x<=MF i)->(∀x∈M,Cn i x<=MF i) ->
  Pk i (Hf i M part l).1 (Hf i M part l).2/\(Hf i M part l).1.flatten++(Hf i M part l).2=l.flatten++(part++M)/\(M≠[]->(Hf i M part l).2≠[])
 | [],part,l,h,hp,hM=>⟨h,by simp[Hf],fun h=>absurd rfl h⟩
 |x::M,part,l,h,hp,hM=>by
  have hx:=hM x (qad ..);have hm:=Xq i;have hM2:∀y∈M,Cn i y<=MF i:=fun y hy=>hM y (qah _ hy);unfold Hf
  split
  .rename_i h1
   have hpk:Pk i (l++[part]) [x]:=by
    refine⟨fun q hq=>?_,by rw[S8];omega,fun _=>by simp,?_,fun q hq=>?_⟩
    .rcases qat.1 hq with hq|hq
     .exact h.full q hq
     .rw[qab.1 hq];exact⟨h.le,by omega⟩
    .have:=h.num;rw[qam,qbx,qdn,Bs,S8,qdo];omega
    .rcases qat.1 hq with hq|hq
     .exact h.sz q hq
     .rw[qab.1 hq];exact hp
   obtain⟨a1,a2,a3⟩:=KE (M:=M) hpk (fun y hy=>by rw[qab.1 hy];exact hx) hM2;refine⟨a1,by rw[a2];simp,fun _=>?_⟩
   cases M with
   |nil=>simp[Hf]
   |cons y M=>exact a3 (by simp)
  .rename_i h1
   have hpk:Pk i l (part++[x]):=by
    refine⟨h.full,by rw[Bs,S8];omega,fun _=>by simp,?_,h.sz⟩;have:=h.num;rw[Bs,S8];omega
   obtain⟨a1,a2,a3⟩:=KE (M:=M) hpk (fun y hy=>by
    rcases qat.1 hy with hy|hy
    .exact hp y hy
    .rw[qab.1 hy];exact hx) hM2
   refine⟨a1,by rw[a2];simp,fun _=>?_⟩
   cases M with
   |nil=>simp[Hf]
   |cons y M=>exact a3 (by simp)
theorem PA(h:l≠[]):l=l.take (l.length - 1)++[l.getLastD []]:=by
 have h1:=List.dropLast_concat_getLast h;rw[List.dropLast_eq_take]at h1;rw[List.getLastD_eq_getLast?,List.getLast?_eq_some_getLast h,qda];exact h1.symm
theorem Nh(q:List It):q.take (q.length - 1)++QQ q=q:=qbp ..
theorem YW(hM:Many i M)(hs:∀x∈M,Cn i x<=MF i) :
  (Fx i M).flatten=M/\(∀a∈Fx i M,Many i a/\AQ i a<=503)/\1<=(Fx i M).length/\503*((Fx i M).length - 1)<2*AQ i M:=by
 obtain⟨h1,h2,h3⟩:=KE (M:=M) (Aie i) (fun x h=>by cases h) hs;replace h3:=h3 hM.ne;rw[List.flatten_nil,qa7,qa7]at h2;obtain⟨l,hl⟩:=qD ((Hf i M [] []).1);obtain⟨part,hpt⟩:=qD ((Hf i M [] []).2);unfold Fx;rw[<-hl,<-hpt]at h1 h2 |-;rw[<-hpt]at h3;have hsp:∀x∈part,Cn i x<=MF i:=fun x hx=>hs x (by rw[<-h2];exact qaz _ hx);have htot:AQ i M=AQ i l.flatten+AQ i part:=by rw[<-h2,Bs]
 have hpp:4<=AQ i part:=by have h5:=Jv i part;have h6:=qbs.2 h3;omega
 have hnum:=h1.num
 have hfat:∀q∈l,q≠[]:=fun q hq e=>by
  have h5:=(h1.full q hq).2;have h6:=Xq i;rw[e]at h5
  have:AQ i []=0:=rfl
  omega
 unfold fixL
 split
 .rename_i hf
  obtain⟨hi,hp1,hl0⟩:=hf;subst hi;have hsl:=PA hl0;obtain⟨q,hq⟩:=qD (l.getLastD []);rw[<-hq]at hsl |-;have hqm:q∈l:=by rw[hsl];exact qaz _ (qab.2 rfl)
  have hqf:=(h1.full q hqm);have hqs:=Ey (inner:=true) (m:=38) (l:=q) (h1.sz q hqm);have h38:MF true=38:=rfl
  have hql:13<=q.length:=by
   rcases qbl q.length 13 with h5|h5
   .have:38*q.length<=38*12:=qb0 _ (by omega)
    omega
   .exact h5
  have hla:(QQ q).length=1:=by unfold QQ;rw[qbe];omega
  have hls:∀x∈QQ q++part,Cn true x<=38:=fun x hx=>(qat.1 hx).elim (fun h=>h1.sz q hqm x (qcr h)) (hsp x)
  have hlen:l.length=(l.take (l.length - 1)).length+1:=by
   have h5:=qac List.length hsl;rw[qam]at h5;exact h5
  refine⟨?_,fun a ha=>?_,?_,?_⟩
  .rw[<-h2]
   conv=>rhs;rw[hsl]
   rw[qdn,qdn,qdn,qdo,qdo,qdo,qa1,<-qa1 (q.take _),Nh,qa1]
  .rcases qat.1 ha with ha|ha
   .rcases qat.1 ha with ha|ha
    .have ham:=qbm ha;have haf:=h1.full a ham;have has:=Ey (inner:=true) (m:=38) (l:=a) (h1.sz a ham);refine⟨?_,haf.1⟩;show 2<=a.length
     rcases qbl a.length 2 with h5|h5
     .have:38*a.length<=38*1:=qb0 _ (by omega)
      omega
     .exact h5
    .rw[qab.1 ha];have h5:=Bs true (q.take (q.length - 1)) (QQ q);rw[Nh]at h5;refine⟨?_,by omega⟩;show 2<=_;rw[qay];omega
   .rw[qab.1 ha];have h5:=Ey (inner:=true) (m:=38) hls;rw[qam,hla,hp1]at h5;refine⟨?_,by omega⟩;show 2<=_;rw[qam,hla,hp1];omega
  .simp
  .rw[qam,qam,qbx,qbx];omega
 .rename_i hf
  refine⟨by rw[qdn,qdo,h2],fun a ha=>?_,by simp,?_⟩
  .rcases qat.1 ha with ha|ha
   .have haf:=h1.full a ha;refine⟨?_,haf.1⟩;unfold Many
    split
    .rename_i hi
     subst hi;have has:=Ey (inner:=true) (m:=38) (l:=a) (h1.sz a ha);have h38:MF true=38:=rfl
     rcases qbl a.length 2 with h5|h5
     .have:38*a.length<=38*1:=qb0 _ (by omega)
      omega
     .exact h5
    .exact hfat a ha
   .rw[qab.1 ha];refine⟨?_,h1.le⟩;unfold Many at hM |-
    split
    .rename_i hi
     rw[if_pos hi]at hM;have h6:=qbs.2 h3
     rcases qbl part.length 2 with h5|h5
     .by_cases hl0:l=[]
      .rw[hl0]at h2;rw[<-h2]at hM;exact hM
      .exact absurd ⟨hi,by omega,hl0⟩ hf
     .exact h5
    .exact h3
  .rw[qam,qbx];omega
end
theorem QR{fr h:Nat}{i:Bool}:∀{Hs:List (List It)} {c:Ch} {acc:List It} {L:List Pr} {S:List Nat},Part (RD c.A fr) h i Hs.flatten L S->OkP L->Held c.P S->On fr c->(∀a∈Hs,Many i a/\AQ i a<=503)->c.A.left = -1->Hs.length<=Dt c.P ->
  ∃t K S',CI fr c (De fr i Hs c acc).2.1 t []/\t.length=Hs.length/\(De fr i Hs c acc).1=0/\On fr (De fr i Hs c acc).2.1/\(De fr i Hs c acc).2.2=acc++K/\K.length=Hs.length/\Kids (Lies (RD (De fr i Hs c acc).2.1.A fr) h) K L S'/\S'.Perm (S++t)/\Held (De fr i Hs c acc).2.1.P S'
 | [],c,acc,L,S,hp,ho,hh,hn,hm,hl,hf=>by
  have hLS:L=[]/\S=[]:=by
   cases h with
   |zero =>
    obtain⟨_,he,rfl⟩:=hp
    cases L with
    |nil=>exact⟨rfl,rfl⟩
    |cons _ _=>cases he
   |succ h=>exact hp.2
  obtain⟨rfl,rfl⟩:=hLS;exact⟨[],[],[],CI.refl _ _,rfl,rfl,hn,by simp[De],rfl,⟨rfl,rfl⟩,by simp,fun x hx=>by cases hx⟩
 |a::Hs,c,acc,L,S,hp,ho,hh,hn,hm,hl,hf=>by
  rw[List.flatten_cons]at hp;obtain⟨La,Lb,Sa,Sb,rfl,rfl,pa,pb⟩:=hp.append;have hoa:OkP La:=fun p hp=>ho p (qbb _ hp);have hob:OkP Lb:=fun p hp=>ho p (qaz _ hp);have hha:Held c.P Sa:=hh.sub fun x hx=>qbb _ hx;have hhb:Held c.P Sb:=hh.sub fun x hx=>qaz _ hx;obtain⟨hma,hta⟩:=hm a (qad ..);rw[qaw]at hf;obtain⟨t,w1,w2,w3⟩:=LH pa hoa hha hn hma hta
  rcases w3 with⟨h7,rfl,h8,h9,h10⟩|h7
  .have hfr:=w1.free;rw[qbx]at hfr;obtain⟨t',K,S',v1,v2,v3,v4,v5,v6,v7,v8,v9⟩:=QR (Hs:=Hs) (acc:=acc++[⟨Gt a,[],BZ c.P⟩]) (pb.frame (w1.rd hhb)) hob (hhb.keep w1) h8 (fun b hb=>hm b (qah _ hb)) (w1.left hl) (by omega)
   have hput:De fr i (a::Hs) c acc=De fr i Hs (wrC fr c i a).2 (acc++[⟨Gt a,[],BZ c.P⟩]):=by
    conv=>lhs;unfold De
    rw[if_pos h7]
   rw[hput];have hCI:=w1.trans v1;refine⟨[BZ c.P]++t',⟨Gt a,[],BZ c.P⟩::K,(BZ c.P::Sa)++S',hCI,by rw[qam,v2];simp;omega,v3,v4,by rw[v5];simp,by simp[v6],?_,?_,?_⟩
   .exact⟨La,Lb,BZ c.P::Sa,S',rfl,rfl,h9.frame (v1.rd (w1.held.app (hha.keep w1))),h10,rfl,v7⟩
   .have h1:((BZ c.P::Sa)++S').Perm (([BZ c.P]++Sa)++(t'++Sb)):=List.Perm.append_left _ (v8.trans qc3);exact h1.trans (perm_front.trans qc3)
   .exact((w1.held.app (hha.keep w1)).keep v1).app v9
  .exfalso
   rcases h7 with⟨_,h7⟩|⟨_,h7⟩
   .exact h7 hl
   .omega
def IC:Nat->Nat->Nat
 |0,lv=>lv
 |n+1,lv=>lv+if 1<lv then IC n (2*lv*38 / 503+1)else 0
def okF(c:Ch)(i:Bool)(M:List It):Bool :=
 decide (M.length<=100000) && (decide (c.tk.length+(Fx i M).length<=50000) && ((M.all fun x=>decide (x.key.length<=65535) && (decide (x.val.length<=65535) && (decide (x.page<9223372036854775808) && decide (Cn i x<=503)))) && (Fx i M).all fun h=>decide (h≠[]) && decide (h.length<=1000)))
def FL(fr:Nat):Nat->Ch->Bool->List It->Int × Ch × Int
 |0,c,_,_=>(99,c,-1)
 |n+1,c,i,M =>
  if okF c i M=false then(99,c,-1)
  else if(De fr i (Fx i M) c []).1≠0 then((De fr i (Fx i M) c []).1,(De fr i (Fx i M) c []).2.1,-1)
  else if(De fr i (Fx i M) c []).2.2.length=1 then(0,(De fr i (Fx i M) c []).2.1,(Ce (De fr i (Fx i M) c []).2.2 0:Int))
  else FL fr n (De fr i (Fx i M) c []).2.1 true (De fr i (Fx i M) c []).2.2
theorem Ac5(n lv:Nat):lv<=IC n lv:=by
 cases n with
 |zero=>exact qae _
 |succ n=>unfold IC;omega
theorem Px{fr:Nat}:∀{n h:Nat} {c:Ch} {i:Bool} {M:List It} {L:List Pr} {S:List Nat} (lv:Nat),lv<=n->n<=1500->Part (RD c.A fr) h i M L S->OkP L->Held c.P S->On fr c->Many i M->c.A.left = -1->2*AQ i M / 503+1<=lv->IC n lv<=Dt c.P->c.tk.length+Dt c.P<=5000 ->
  ∃t,CI fr c (FL fr n c i M).2.1 t []/\t.length<=IC n lv/\(FL fr n c i M).1=0/\On fr (FL fr n c i M).2.1/\∃S',Root (RD (FL fr n c i M).2.1.A fr) (FL fr n c i M).2.2 L S'/\S'.Perm (S++t)/\Held (FL fr n c i M).2.1.P S'
 |0,h,c,i,M,L,S,lv,hlv,hn15,hp,ho,hh,hn,hm,hl,h3,hf,htk=>by omega
 |n+1,h,c,i,M,L,S,lv,hlv,hn15,hp,ho,hh,hn,hm,hl,h3,hf,htk=>by
  have hx:=hp.ok ho hh hn.few
  have hsz:∀x∈M,Cn i x<=MF i:=fun x hx'=>by
   obtain⟨_,h4,h5⟩:=hx x hx';unfold MF
   split
   .rename_i hi;exact h5 hi
   .exact h4
  obtain⟨f1,f2,f3,f4⟩:=YW hm hsz;have hklv:(Fx i M).length<=lv:=by omega
  have hfl:lv<=IC (n+1) lv:=Ac5 _ _
  have hok:okF c i M=true:=by
   have hM:=Jv i M;unfold okF;simp only[qao,qaq,qby];refine⟨by omega,by omega,fun x hx'=>?_,fun a ha=>?_⟩
   .obtain⟨⟨h4,h5,h6,_⟩,h7,_⟩:=hx x hx';omega
   .have h4:=Jv i a;have h5:=(f2 a ha).2;exact⟨(f2 a ha).1.ne,by omega⟩
  obtain⟨t,K,S',p1,p2,p3,p4,p5,p6,p7,p8,p9⟩:=QR (Hs:=Fx i M) (acc:=[]) (by rw[f1];exact hp) ho hh hn f2 hl (by omega);rw[qa7]at p5;unfold FL;rw[if_neg (by rw[hok];simp),if_neg (by rw[p3];simp)]
  split
  .rename_i h1
   refine⟨t,p1,by omega,rfl,p4,S',?_,p8,p9⟩;rw[p5]at h1 |-
   match K,h1 with
   | [z],_ =>
    obtain⟨L1,L2,S1,S2,rfl,rfl,k1,k2,k3,rfl,rfl⟩:=p7;rw[qa2,qa2];exact .inr ⟨h,z.page,rfl,k1⟩
  .rename_i h1
   rw[p5]at h1 |-;have hK2:2<=K.length:=by omega
   have hlv2:1<lv:=by omega
   have hmg:IC (n+1) lv=lv+IC n (2*lv*38 / 503+1):=by
    conv=>lhs;unfold IC
    rw[if_pos hlv2]
   rw[hmg]at hf |-;have hfree:=p1.free;have htk2:(De fr i (Fx i M) c []).2.1.tk.length=c.tk.length+t.length:=by rw[p1.tk,qam]
   have hP1:Part (RD (De fr i (Fx i M) c []).2.1.A fr) (h+1) true K L S':=⟨rfl,p7⟩;have hKs:=Ey (inner:=true) (m:=38) (l:=K) fun x hx'=>((hP1.ok ho p9 p4.few) x hx').2.2 rfl
   have hle:2*AQ true K / 503+1<=2*lv*38 / 503+1:=by
    have h5:2*AQ true K<=2*lv*38:=by
     have:38*K.length<=38*lv:=qb0 _ (by omega)
     omega
    have:=Nat.div_le_div_right (c:=503) h5;omega
   obtain⟨t',b1,b2,b3,b4,S'',b5,b6,b7⟩:=Px (n:=n) (2*lv*38 / 503+1) (by omega) (by omega) hP1 ho p9 p4 (show 2<=K.length from hK2) (p1.left hl) hle (by omega) (by omega);have hCI:=p1.trans b1;refine⟨t++t',hCI,by rw[qam];omega,b3,b4,S'',b5,?_,b7⟩;rw[<-qa1];exact b6.trans (p8.append_right _)
def GoodP(L:List Pr)(i:Nat):Prop:=∃p,L[i]?=some p/\Dl p.1.length p.2.length=true/\∀q,0<i->L[i - 1]?=some q->ltB q.1 p.1
def BW(L:List Pr):Nat:=(L.map fun p=>4+p.1.length+p.2.length).sum
theorem VT(L:List Pr):AQ false (L.map BK)=BW L:=by
 induction L with
 |nil=>rfl
 |cons p L ih =>
  rw[qau,Cr,ih];unfold BW;rw[qau,qco];rfl
structure Built(A:Dev)(P:List Nat)(L:List Pr)(e root:Int)(A':Dev)(P':List Nat):Prop where
 ok:e=0
 tree:TreeAt 10 A' P' root L
 on:A'.on=true
 left:A'.left = -1
 blen:A'.B.length=A.B.length
 len:P'.length=P.length
 cnt:∃S,Root (RD A' 10) root L S/\S.Nodup/\(∀x:Nat,x∈S↔P'[x]?=some 1\/P'[x]?=some 2)/\S.length<=IC 1500 (2*BW L / 503+1)
def Nn(A:Dev)(P:List Nat)(L:List Pr):Int × Ch × Int:=FL 10 1500 ⟨A,P,[],[]⟩ false (L.map BK)
theorem UB:∀{n m lv:Nat},lv<=m->IC n lv<=2*m
 |0,m,lv,h=>by show lv<=_;omega
 |n+1,m,lv,h=>by
  unfold IC
  split
  .have:=UB (n:=n) (m:=lv / 2) (lv:=2*lv*38 / 503+1) (by omega);omega
  .omega
theorem built{n:Nat}{L:List Pr}(hn:n=1500)(hL:L.length<=1000)(ho:OkP L)(hr:Rising L)(hne:L≠[]) :
  Built (Dd (10+n)) (List.replicate n 0) L (Nn (Dd (10+n)) (List.replicate n 0) L).1 (Nn (Dd (10+n)) (List.replicate n 0) L).2.2 (Nn (Dd (10+n)) (List.replicate n 0) L).2.1.A (DC (Nn (Dd (10+n)) (List.replicate n 0) L).2.1 0).P/\(Nn (Dd (10+n)) (List.replicate n 0) L).2.1.tk.length<=1400:=by
 have hb:BW L<=164*L.length:=by
  have:∀L:List Pr,OkP L->BW L<=164*L.length:=by
   intro L
   induction L with
   |nil=>intro _;exact qal _
   |cons p L ih =>
    intro ho;obtain⟨h1,h2,h3⟩:=ho p (qad ..);have:=ih fun q hq=>ho q (qah _ hq);unfold BW at this |-;rw[qau,qco,qaw];omega
  exact this L ho
 have hfree:Dt (List.replicate n 0)=n:=by
  unfold Dt;rw[List.countP_replicate];exact if_pos (by decide)
 have hblen:(Dd (10+n)).B.length=10+n:=qbc ..;have hplen:(List.replicate n 0:List Nat).length=n:=qbc ..;have hmost:=UB (n:=1500) (m:=653) (lv:=2*BW L / 503+1) (by omega);obtain⟨t,b1,b2,b3,b4,S',b5,b6,b7⟩:=Px (fr:=10) (n:=1500) (h:=0) (c:=⟨Dd (10+n),List.replicate n 0,[],[]⟩) (i:=false) (M:=L.map BK) (L:=L) (S:=[]) (2*BW L / 503+1) (by omega) (qae _) ⟨rfl,rfl,rfl⟩ ho (fun x h=>by cases h) ⟨rfl,by dsimp only;omega,by dsimp only;omega⟩ (show L.map BK≠[]from fun e=>hne (List.map_eq_nil_iff.1 e)) rfl (by rw[VT];exact qae _) (by dsimp only;omega) (by dsimp only;rw[hfree];show 0+n<=5000;omega)
 have hP:(DC (Nn (Dd (10+n)) (List.replicate n 0) L).2.1 0).P=(Nn (Dd (10+n)) (List.replicate n 0) L).2.1.P:=by
  have hg:(Nn (Dd (10+n)) (List.replicate n 0) L).2.1.gn=[]:=by
   show(FL 10 1500 ⟨Dd (10+n),List.replicate n 0,[],[]⟩ false (L.map BK)).2.1.gn=[];rw[b1.gn];rfl
  show((if(0:Int)≠0 then _ else(Nn (Dd (10+n)) (List.replicate n 0) L).2.1.gn).foldl Fu _)=_;rw[if_neg (by simp),hg];rfl
 rw[hP];rw[qa7]at b6
 have hS:∀x:Nat,x∈S'↔(Nn (Dd (10+n)) (List.replicate n 0) L).2.1.P[x]?=some 1\/(Nn (Dd (10+n)) (List.replicate n 0) L).2.1.P[x]?=some 2:=fun x=>by
  have h1:=b1.now x;rw[b6.mem_iff];show _↔(FL 10 1500 ⟨Dd (10+n),List.replicate n 0,[],[]⟩ false (L.map BK)).2.1.P[x]?=some 1\/(FL 10 1500 ⟨Dd (10+n),List.replicate n 0,[],[]⟩ false (L.map BK)).2.1.P[x]?=some 2;rw[h1]
  by_cases hx:x∈t
  .rw[if_pos hx];exact⟨fun _ => .inr rfl,fun _=>hx⟩
  .rw[if_neg hx];refine⟨fun h=>absurd h hx,fun h=>?_⟩;have h0:∀{s:Nat},(List.replicate n 0)[x]?=some s->s=0:=fun h=>List.eq_of_mem_replicate (qaf h)
   rcases h with h|h
   .have:=h0 h;omega
   .have:=h0 h;omega
 have htk:(Nn (Dd (10+n)) (List.replicate n 0) L).2.1.tk.length<=1400:=by
  show(FL 10 1500 ⟨Dd (10+n),List.replicate n 0,[],[]⟩ false (L.map BK)).2.1.tk.length<=1400;rw[b1.tk];simp only[qa7];omega
 exact⟨⟨b3,⟨⟨S',b5,b6.nodup_iff.2 b1.nd,hS⟩,hr,ho⟩,b4.on,b1.left rfl,b1.blen,b1.len,S',b5,b6.nodup_iff.2 b1.nd,hS,by rw[b6.length_eq];exact b2⟩,htk⟩
theorem Ac6:∀{a b:Byt},a<b↔ltB a b
 | [],[]=>by simp[ltB,show Ds [] []=0 from rfl]
 | [],y::b=>by simp[ltB,show Ds [] (y::b) = -1 from rfl]
 |x::a,[]=>by simp[ltB,show Ds (x::a) []=1 from rfl]
 |x::a,y::b=>by
  rw[List.cons_lt_cons_iff,Ac6 (a:=a) (b:=b)];unfold ltB;rw[GH]
  by_cases h1:x<y
  .rw[if_pos h1];simp[h1]
  .rw[if_neg h1]
   by_cases h2:y<x
   .rw[if_pos h2]
    have:x≠y:=fun h=>by rw[h]at h2;exact UInt8.lt_irrefl _ h2
    simp[h1,this]
   .rw[if_neg h2];have h3:x=y:=UInt8.le_antisymm (UInt8.not_lt.1 h2) (UInt8.not_lt.1 h1);simp[h3]
theorem Aif{a b:Byt}:a<=b↔¬ltB b a:=by
 rw[<-Ac6,List.not_lt]
theorem Afk{L:List Pr}{k v k' u:Byt}:(k',u)∈H8 L k v↔(k'=k/\u=v)\/((k',u)∈L/\k'≠k):=by
 unfold H8;simp only[qat,qaa,qbg,qaq,qdw];constructor
 .rintro(⟨h1,h2⟩|h|⟨h1,h2⟩)
  .exact .inr ⟨h1,FH h2⟩
  .exact .inl h
  .exact .inr ⟨h1,fun e=>FH h2 e.symm⟩
 .rintro(h|⟨h1,h2⟩)
  .exact .inr (.inl h)
  .rcases Lu k' k with h|h|h
   .exact .inl ⟨h1,h⟩
   .exact absurd h h2
   .exact .inr (.inr ⟨h1,h⟩)
theorem Afl{L:List Pr}{k k' u:Byt}:(k',u)∈IG L k↔(k',u)∈L/\k'≠k:=by
 unfold IG;simp
theorem Ac7{L:List Pr}(h:Rising L)(k v k':Byt):Fe (H8 L k v) k'=if k'=k then some v else Fe L k':=by
 refine Option.ext fun u=>?_;rw[Fd (Js h k v),Afk]
 by_cases he:k'=k
 .rw[if_pos he];simp[he,eq_comm]
 .rw[if_neg he,Fd h];simp[he]
theorem Ac8{L:List Pr}(h:Rising L)(k k':Byt):Fe (IG L k) k'=if k'=k then none else Fe L k':=by
 refine Option.ext fun u=>?_;rw[Fd (Jt h k),Afl]
 by_cases he:k'=k
 .rw[if_pos he];simp[he]
 .rw[if_neg he,Fd h];simp[he]
theorem KF{L:List Pr}(h:Rising L):(L.map (·.1)).Nodup:=by
 rw[qc6,qbn];exact h.imp fun h=>FH h
theorem FQ{kv:List Pr}(h:(kv.map (·.1)).Nodup):kv.Nodup:=(qbn.1 h).imp fun h e=>h (by rw[e])
theorem Ac9{L M:List Pr}(hL:Rising L)(hM:Rising M)(h:∀k,Fe L k=Fe M k):L=M:=by
 have hm:∀p,p∈L↔p∈M:=fun p=>by rw[show p=(p.1,p.2)from rfl,<-Fd hL,<-Fd hM,h]
 have n1:L.Nodup:=FQ (KF hL);have n2:M.Nodup:=FQ (KF hM);refine List.Perm.eq_of_pairwise (le:=fun(x y:Pr)=>ltB x.1 y.1) (fun a b _ _ h1 h2=>absurd h2 (Ex h1)) hL hM ((qe2 n1 n2).2 hm)
theorem Ada{kv:Kvl}(h:(kv.map (·.1)).Nodup){k v:Byt}:B7 kv k=some v↔(k,v)∈kv:=by
 refine⟨EF,fun hm=>?_⟩
 induction kv with
 |nil=>cases hm
 |cons p kv ih =>
  rw[qau,qcf]at h;unfold B7 at ih |-;rw[qcu]
  rcases qaa.1 hm with rfl|hm
  .simp
  .have hne:¬p.1=k:=fun e=>h.1 (by rw[e];exact qak.2 ⟨_,hm,rfl⟩);rw[qag hne];exact ih h.2 hm
theorem UC{kv:Kvl}(h:(kv.map (·.1)).Nodup)(k k':Byt):B7 (EN kv k) k'=if k'=k then none else B7 kv k':=by
 induction kv with
 |nil=>split <;> rfl
 |cons p kv ih =>
  rw[qau,qcf]at h;have ih:=ih h.2;unfold EN
  by_cases hp:p.1=k
  .rw[if_pos hp]
   by_cases he:k'=k
   .rw[if_pos he];rw[<-qeb,GK];simp only[qaq];rw[he,<-hp];exact h.1
   .rw[if_neg he];unfold B7;rw[qcu,qag (fun e=>he (by rw[<-e,hp]))]
  .rw[if_neg hp];unfold B7 at ih |-;rw[qcu,qcu]
   by_cases he:p.1=k'
   .rw[qai he,if_neg (fun e=>hp (by rw[he,e]))]
   .rw[qag he];exact ih
theorem UD{kv:Kvl}(h:(kv.map (·.1)).Nodup)(x:Wr)(k:Byt):B7 (JD kv x) k=if k=x.k then(if x.d=true then none else some x.v)else B7 kv k:=by
 unfold JD
 split
 .rw[UC h]
 .obtain⟨h1,h2⟩:=Iw (k:=x.k) h
  have h3:B7 (EN kv x.k) x.k=none:=by
   rw[<-qeb,GK]
   simpa using h2
  rw[G8 h3];have hd:=UC h x.k k;unfold B7 at hd |-;rw[qd7,Option.map_or,hd]
  by_cases he:k=x.k
  .simp[he]
  .have he':¬x.k=k:=fun e=>he e.symm;simp[he,he']
def doP(L:List Pr)(x:Wr):List Pr:=if x.d=true then IG L x.k else H8 L x.k x.v
def Adb(L:List Pr)(W:List Wr):List Pr:=W.foldl doP L
structure KL(kv:Kvl)(L:List Pr):Prop where
 nd:(kv.map (·.1)).Nodup
 rise:Rising L
 get:∀k,B7 kv k=Fe L k
theorem VU{L:List Pr}(h:Rising L)(x:Wr):Rising (doP L x):=by
 unfold doP
 split
 .exact Jt h _
 .exact Js h _ _
theorem Afm{L:List Pr}(h:Rising L)(x:Wr)(k:Byt):Fe (doP L x) k=if k=x.k then(if x.d=true then none else some x.v)else Fe L k:=by
 unfold doP
 split
 .rw[Ac8 h]
 .rw[Ac7 h]
section
variable {kv:Kvl}{L:List Pr}
theorem KL.set(h:KL kv L)(x:Wr):KL (JD kv x) (doP L x) :=
 ⟨KD h.nd,VU h.rise x,fun k=>by rw[UD h.nd,Afm h.rise,h.get]⟩
theorem KL.sets:∀{W:List Wr} {kv:Kvl} {L:List Pr},KL kv L->KL (EG kv W) (Adb L W)
 | [],_,_,h=>h
 |x::W,_,_,h=>KL.sets (W:=W) (h.set x)
theorem KL.nil:KL [] []:=⟨qcv,List.Pairwise.nil,fun _=>rfl⟩
theorem KL.perm(h:KL kv L):kv.Perm L:=by
 refine(qe2 (FQ h.nd) (FQ (KF h.rise))).2 fun p=>?_;rw[show p=(p.1,p.2)from rfl,<-Ada h.nd,<-Fd h.rise,h.get]
theorem KL.len(h:KL kv L):kv.length=L.length:=h.perm.length_eq
theorem KL.one{M:List Pr}(h:KL kv L)(h2:KL kv M):L=M:=Ac9 h.rise h2.rise fun k=>by rw[<-h.get,h2.get]
theorem KL.scan(h:KL kv L)(kf kt:Byt):JF kv kf kt=Pf kf kt L:=by
 have hs:(Eh kv).Pairwise (fun x y=>ltB x y):=by
  have h1:(Eh kv).Pairwise (fun x y=>x<=y):=by
   have:=List.pairwise_mergeSort (le:=fun x y:Byt=>decide (x<=y)) (fun a b c h1 h2=>by simp only[qaq]at *;exact List.le_trans h1 h2) (fun a b=>by simp only[qcp,qaq];exact List.le_total a b) (kv.map (·.1));exact this.imp fun h=>by simpa using h
  have h2:(Eh kv).Nodup:=((qdb _ _).nodup_iff).2 h.nd;refine(h1.and h2).imp fun{a b} hab=>?_
  rcases Lu a b with h3|h3|h3
  .exact h3
  .exact absurd h3 hab.2
  .exact absurd h3 (Aif.1 hab.1)
 have hk:Eh kv=L.map (·.1):=by
  have hp:(Eh kv).Perm (L.map (·.1)):=(qdb _ _).trans (h.perm.map _);exact List.Perm.eq_of_pairwise (le:=ltB) (fun a b _ _ h1 h2=>absurd h2 (Ex h1)) hs (qbn.2 h.rise) hp
 unfold JF Pf;rw[hk,List.filter_map,qbw];have hf:(S7 kf kt ∘ fun x:Pr=>x.1)=fun p:Pr=>inR kf kt p.1:=rfl;rw[hf]
 have:∀p∈L.filter fun p=>inR kf kt p.1,((fun k=>(k,(B7 kv k).getD [])) ∘ fun x:Pr=>x.1) p=p:=fun p hp=>by
  have h1:=(Fd h.rise (k:=p.1) (v:=p.2)).2 (qbg.1 hp).1;show(p.1,(B7 kv p.1).getD [])=p;rw[h.get,h1];rfl
 rw[qc7 this,List.map_id''];exact fun _=>rfl
end
theorem Ht(p:Pr)(L:List Pr):BW (p::L)=4+p.1.length+p.2.length+BW L:=by simp[BW]
theorem VV(A B:List Pr):BW (A++B)=BW A+BW B:=by simp[BW]
theorem Ni{A B:List Pr}(h:A.Perm B):BW A=BW B:=(h.map _).sum_nat
theorem QS:∀{kv:Kvl} (_:(kv.map (·.1)).Nodup) (k:Byt),(BW (EN kv k):Int)=BW kv - JE kv k
 | [],_,k=>by simp[EN,JE,B7,BW]
 |p::kv,h,k=>by
  rw[qau,qcf]at h;have ih:=QS h.2 k;unfold JE B7 at ih |-;unfold EN;rw[qcu]
  by_cases hp:p.1=k
  .rw[if_pos hp,qai hp,Ht];simp only[qbd,Kd,<-hp];omega
  .rw[if_neg hp,qag hp,Ht,Ht];dsimp only;omega
theorem YX{kv:Kvl}(h:(kv.map (·.1)).Nodup)(x:Wr):(BW (JD kv x):Int)=BW kv - JE kv x.k+FK x:=by
 have hd:=QS h x.k;unfold JD FK
 split
 .rw[hd];omega
 .obtain⟨h1,h2⟩:=Iw (k:=x.k) h
  have h3:B7 (EN kv x.k) x.k=none:=by
   rw[<-qeb,GK]
   simpa using h2
  rw[G8 h3,VV,Ht]
  have:BW []=0:=rfl
  rw[this,<-hd];unfold Kd
  push_cast
  omega
theorem Py:∀{W:List Wr} {kv:Kvl} (_:(kv.map (·.1)).Nodup) (n:Int),DD kv n W=n - BW kv+BW (EG kv W)
 | [],kv,h,n=>by show n=n - _+((BW kv:Nat):Int);omega
 |x::W,kv,h,n=>by
  have h1:=Py (W:=W) (KD (x:=x) h) (n - JE kv x.k+FK x);have h2:=YX h x;show DD (JD kv x) _ W=n - BW kv+BW (EG (JD kv x) W);omega
def PB:List Byt->List Wr->Bool
 |_,[]=>true
 |seen,x::W => !LM (decide (x.k∈seen)) x && PB (seen++[x.k]) W
theorem Adc{kv:Kvl}{room:Int}:∀{W:List Wr} {kv':Kvl} {seen:List Byt} {b:Int},(∀k,k∉seen->B7 kv' k=B7 kv k)->(kv'.map (·.1)).Nodup->goK kv room seen b W=if PB seen W=true then(if room<DD kv' b W then 7 else 0)else 1
 | [],kv',seen,b,_,_=>rfl
 |x::W,kv',seen,b,hk,hnd=>by
  rw[goK]
  by_cases hb:LM (decide (x.k∈seen)) x=true
  .have:¬PB seen (x::W)=true:=by unfold PB;rw[hb];simp
   rw[if_pos hb,if_neg this]
  .have hm:PB seen (x::W)=PB (seen++[x.k]) W:=by
    unfold PB;rw[qd0.2 hb];show(true && PB (seen++[x.k]) W)=_;rw[Bool.true_and];cases W <;> rfl
   have hs:x.k∉seen:=by
    unfold LM at hb;simp only[qcp,qaq,not_or]at hb;exact hb.1
   have ho:JE kv' x.k=JE kv x.k:=by unfold JE;rw[hk x.k hs]
   rw[if_neg hb,hm,Adc (kv':=JD kv' x) (seen:=seen++[x.k]) (fun k hk2=>?_) (KD hnd)]
   .rw[<-ho];rfl
   .simp only[qat,qab,not_or]at hk2;rw[UD hnd,if_neg hk2.2,hk k hk2.1]
theorem Add{kv:Kvl}(h:(kv.map (·.1)).Nodup)(room:Int)(W:List Wr):Dm kv (BW kv) room W=if 1000<W.length then 6 else if PB [] W=true then(if room<BW (EG kv W)then 7 else 0)else 1:=by
 unfold Dm;rw[Adc (kv':=kv) (fun _ _=>rfl) h,Py h];rw[show(BW kv:Int) - BW kv+BW (EG kv W)=BW (EG kv W)by omega]
theorem KL.right{kv:Kvl}{L:List Pr}(h:KL kv L)(room:Int)(W:List Wr):Dm kv (BW L) room W=if 1000<W.length then 6 else if PB [] W=true then(if room<BW (Adb L W)then 7 else 0)else 1:=by
 rw[<-Ni h.perm,Add h.nd,Ni (h.sets (W:=W)).perm]
section
variable {w:World}{bp ba:Nat}{P:List Nat}
theorem Afn(h:PgAt w bp ba P)(k:Nat)(hk:P[k]?=some 0):Ret prog 99 #[ptr bp,.int .i64 (k:Int)] w fun v w'=>v=.int .i64 0/\PgAt w' bp ba (P.set k 1)/\Ext [ba] w w':=by
 obtain⟨w0,rfl⟩:=qD w;have hlen:=h.len;have hlt:=(qar.1 hk).1;have hh:Nm P (k:Int)=true:=by unfold Nm;simp;omega
 have H:=Ctx.start1 h.st;have hpz:∀{z:World},Ext [ba] w0 z->z.heap[bp]?=some (Bl TPg [.slice (some ⟨ba,0,none⟩) P.length P.length]):=fun{z} hz=>by rw[hz.block bp (Al h.hd) (by simpa using h.ne)];exact h.hd
 refine Ax (fn:=f99) func99 U [.pointer (some ⟨bp,0,none⟩),.int .i64 (k:Int)] U ?_;refine Ad (BL U (.int _ _) U ?_);refine qA (Aq ?_);refine Ad (B4 (.pointer _) U ?_);refine B4 (.int _ _) U (Ah qB (Sk h (k:Int)) U ?_);rintro v w ⟨rfl,rfl⟩;rw[hh];refine BL U (.int _ _) U (qA ?_);refine Ad (B4 (.int _ _) U ?_);refine AN U U (qA ?_);refine Br U (Ap (Aa ?_));refine Aq (Ad ?_);refine B4 (.pointer _) U (AD U ?_);refine Af Fl U (Bq Ih U (Au (hpz H.ext) (0+0)) ?_);refine B4 (.int _ _) U (CO U GP Gq U U ?_);refine Bq Vh U (Sj (H.get at0) hk) (AN U U ?_);refine qA (Ar _ U ?_ ?_)
 .intro h1;replace h1:=Bh h1;exact absurd U h1
 .intro h1;replace h1:=Bi h1;refine Ap (Aa ?_);refine Ad (B4 (.pointer _) U ?_);refine AD U (Af Fl U ?_);refine Bq Ih U (Au (hpz H.ext) (0+0)) (B4 (.int _ _) U ?_);refine CO U GP Gq U U (Bk (.int _ _) Gq U U U H (by exact at0) (by(simp;omega)) ?_);rintro w H;refine qA (Ad ?_);refine BL U (.int _ _) U (qA ?_);refine Aw (AE (v:=(.int _ _)) U U U ?_);exact⟨rfl,h.set H.ext (by decide) (by rw[H.get at0];simp[stv]),H.ext⟩
end
section
variable {wb w w' w1 w2:World}{bs m1 m2 gen:Nat}{vd vj vp vt:Value}{root n T:Int}{kv:Kvl}{t0:List (Byt × Int)}{W:List Wr}{M:Mut}{l:List (Byt × Sv)}{z1 z2:Obj}
structure Sr(wb:World)(M:Mut)(bs m1 m2:Nat)(vd vj vp vt:Value)(gen:Nat)(root:Int)(kv:Kvl)(n:Int)(t0:List (Byt × Int))(W:List Wr)(l:List (Byt × Sv))(z1 z2:Obj)(w':World):Prop where
 H:Ctx wb [bs,m1,m2] w' [(bs,Bl CV (CK vd vj vp vt gen root m1 m2 (DD kv n W) false)),(m1,z1),(m2,z2)]
 K:KvAt w' M l z1
 k:Gu l=EG kv W
 m:Ec str (mi (He t0 W)) z2
theorem MG:∀{W:List Wr} {t:List (Byt × Int)} {T:Int},(∀p∈t,0<=p.2/\p.2<=T)->0<=T->∀p∈He t W,0<=p.2/\p.2<=T+W.length
 | [],t,T,h,_=>by simpa[He]using h
 |x::W,t,T,h,hT=>fun p hp=>by
  have:=MG (W:=W) (Pi (k:=x.k) h hT).1 (by omega) p hp;rw[qaw];omega
theorem Sr.step(S:Sr wb M bs m1 m2 vd vj vp vt gen root kv n t0 W l z1 z2 w)(hx:Ext [] w w1)(hS:∀x∈[bs,m1,m2],M x)(hMb:∀x,M x->x<wb.heap.size)(m:Wm)(hm:m.Ok w1 M)(hf:m.x.Few)(hT:0<=T/\T+W.length<=4000000)(ht:∀p∈t0,0<=p.2/\p.2<=T)(hn : -(200*T)<=n/\n<=200*T)(hkv:∀q∈kv,q.1.length<=32/\q.2.length<=128)(hW:∀x∈W,x.Few) :
  Ret prog 49 #[ptr bs,.agg (CZ m).toArray] w1 fun v w'=>v=.tuple #[]/\∃l' z1' z2',Sr wb M bs m1 m2 vd vj vp vt gen root kv n t0 (W++[m.x]) l' z1' z2' w'/\Ext [bs,m1,m2] w1 w':=by
 have hn1:=Hd (m:=T) hkv hW hn.1 hn.2;have hb1:=S.H.ext.size;have hb2:=hx.size;refine(WX (T:=T+W.length) (Ctx.startL (S.H.call hx).blk (S.H.call hx).nd) ⟨S.K.m,fun q hq=>⟨(S.K.ok q hq).1.call hx,(S.K.ok q hq).2⟩,S.K.few⟩ S.m hS (fun y hy=>by have:=hMb y hy;omega) m hm hf (MG ht hT.1)).mono fun v w' ⟨hv,s,z1',z2',H7,K7,hsv,hM7⟩=>⟨hv,_,z1',z2',⟨?_,K7,?_,?_⟩,H7.ext⟩
 .rw[KC,<-S.k,<-S5];exact⟨(S.H.call hx).ext.trans H7.ext,H7.blk,H7.nd,fun y hy => .inl (by simp only[qaa,qaj,or_false]at hy |-;rcases hy with rfl|rfl|rfl <;> simp)⟩
 .rw[Xe hsv,S.k,Ps]
 .rw[Ng];exact hM7
theorem Sr.call(S:Sr wb M bs m1 m2 vd vj vp vt gen root kv n t0 W l z1 z2 w)(hx:Ext [] w w'):Sr wb M bs m1 m2 vd vj vp vt gen root kv n t0 W l z1 z2 w' :=
 ⟨S.H.call hx,⟨S.K.m,fun q hq=>⟨(S.K.ok q hq).1.call hx,(S.K.ok q hq).2⟩,S.K.few⟩,S.k,S.m⟩
end
def toW(p:Pr):Wr:=⟨p.1,p.2,false⟩
def IL(P:List Nat)(l:List Int):List Nat:=l.foldl (fun P k=>P.set k.toNat 1) P
theorem JG:∀(l:List Int) (P:List Nat),(IL P l).length=P.length
 | [],P=>rfl
 |k::l,P=>by rw[show IL P (k::l)=IL (P.set k.toNat 1) l from rfl,JG l,qcb]
theorem YY{P:List Nat}{l:List Int}{k:Int}:IL P (l++[k])=(IL P l).set k.toNat 1:=by simp[IL]
theorem UE:∀(l:List Int) (P:List Nat) (x:Nat),(IL P l)[x]?=if(x:Int)∈l.map (fun k=>((k.toNat:Nat):Int))then P[x]?.map (fun _=>1)else P[x]?
 | [],P,x=>by simp[IL]
 |k::l,P,x=>by
  rw[show IL P (k::l)=IL (P.set k.toNat 1) l from rfl,UE l,qc1]
  by_cases h:k.toNat=x
  .rw[if_pos h];have h2:(x:Int)∈(k::l).map (fun k=>((k.toNat:Nat):Int)):=by rw[qau,h];exact qad ..
   rw[if_pos h2]
   by_cases hl:k.toNat<P.length
   .rw[if_pos hl,qa9 (by omega:x<P.length)]
    split <;> rfl
   .rw[if_neg hl,qbu (by omega:P.length<=x)]
    split <;> rfl
  .rw[if_neg h]
   have h2:(x:Int)∈(k::l).map (fun k=>((k.toNat:Nat):Int))↔(x:Int)∈l.map (fun k=>((k.toNat:Nat):Int)):=by
    rw[qau,qaa];exact⟨fun h5=>h5.resolve_left (by omega),.inr⟩
   by_cases h3:(x:Int)∈l.map (fun k=>((k.toNat:Nat):Int))
   .rw[if_pos h3,if_pos (h2.2 h3)]
   .rw[if_neg h3,if_neg fun h5=>h3 (h2.1 h5)]
theorem YZ(L:List Pr)(h:Rising L):KL (EG [] (L.map toW)) L:=by
 have h1:=KL.nil.sets (W:=L.map toW)
 have h2:∀(B A:List Pr),Rising (A++B)->Adb A (B.map toW)=A++B:=by
  intro B
  induction B with
  |nil=>intro A _;simp[Adb]
  |cons p B ih =>
   intro A hA
   have hp:doP A (toW p)=A++[p]:=by
    show H8 A p.1 p.2=_;have h3:=(Rising.append.1 hA).2.2;have:=Su (A:=A) (B:=[]) (k:=p.1) (v:=p.2) (L:=A) (fun q hq=>h3 q hq p (qad ..)) (fun q hq=>by cases hq) (.inl (qa2 A).symm);exact this
   show Adb (doP A (toW p)) (B.map toW)=_;rw[hp,ih (A++[p]) (by simpa using hA)];simp
 rw[h2 L [] (by simpa using h)]at h1;exact h1
theorem Ade{w:World}{bs bd bp ba bt m1 m2 gen m:Nat}{root:Int}{vj:Value}{A:Dev}{F:Mut}{o1 o2:Obj}{L:List Pr}{S:List Nat}(T:Tx w bt bd bp ba 362 A (List.replicate m 0) F [(bs,Bl CV (CK (ptr bd) vj (ptr bp) (ptr bt) gen root m1 m2 0 false)),(m1,o1),(m2,o2)])(hm1:Ec str (mv []) o1)(hm2:Ec str (mi []) o2)(td:Told 362 A (List.replicate m 0) root L S)(hS:∀x∈S,x<m)(hnd:S.Nodup)(_:Rising L)(ho:OkP L){mx:Nat}(hfew:Few A mx)(hLn:L.length<=50000)(hmx:mx<=1000000000:=by decide):
  Ret prog 61 #[ptr bs] w fun v w'=>v=.int .i64 0/\∃l z1 z2,Ctx w [bs,m1,m2,ba] w' [(bs,Bl CV (CK (ptr bd) vj (ptr bp) (ptr bt) gen root m1 m2 (DD [] 0 (L.map toW)) false)),(m1,z1),(m2,z2),(ba,Bl TSt ((IL (List.replicate m 0) (IB (S.map fun x:Nat=>(x:Int)))).map stv))]/\KvAt w' (Old w) l z1/\Gu l=EG [] (L.map toW)/\Ec str ([]:List (Byt × Value)) z2:=by
 obtain⟨wI,rfl⟩:=qD w;have hs:=T.blk (bs,Bl CV (CK (ptr bd) vj (ptr bp) (ptr bt) gen root m1 m2 0 false)) (qad ..);have hb1:=T.blk (m1,o1) (by simp);have hb2:=T.blk (m2,o2) (by simp);have hoffs:=T.off;have hndT:=T.nd;dsimp only at hs hb1 hb2;have T0:Tx wI bt bd bp ba 362 A (List.replicate m 0) F []:=⟨T.tr,T.pg,T.dev,(fun x hx=>by cases hx),List.Pairwise.nil,(fun x hx=>by cases hx),T.nbt,T.nbp,T.nba,T.lt⟩;have hbsa:bs≠ba:=(hoffs _ (qad ..)).2.1;have hm1a:m1≠ba:=(hoffs (m1,o1) (by simp)).2.1;have hm2a:m2≠ba:=(hoffs (m2,o2) (by simp)).2.1;have hbpa:=T.pg.ne;have halt:=Al T.pg.st;have hlen:(List.replicate m 0).length=m:=qbc;have hw:=td.walk;have hsc:=td.scan [] [];have hnum:=td.num;have hSl:=td.len;have hr1:=td.rlo;have hr2:=td.rhi;have hPl:=T.pg.len;rw[Y7]at hsc;obtain⟨ks,hks⟩:=qD (IB (S.map fun x:Nat=>(x:Int)))
 have hperm:ks.Perm (S.map fun x:Nat=>(x:Int)):=by rw[hks];exact qdb _ _
 have hkn:ks.Nodup:=hperm.nodup_iff.2 (qbn.2 (hnd.imp fun h e=>h (by omega)));have hkl:ks.length=S.length:=by rw[hperm.length_eq,qan]
 rw[<-hks]at hw |-;have hwalk:=fun(z:World) (Tz:Tx z bt bd bp ba 362 A (List.replicate m 0) F [])=>Ace Tz root hfew hmx;simp only[hw]at hwalk;have hscan:=fun(z:World) (P:List Nat) (hP:P.length=(List.replicate m 0).length) (Tz:Tx z bt bd bp ba 362 A P F [])=>Acg Tz root none none 0 0 0 0 [] [] Rd.nil rfl Rd.nil rfl hfew hmx (by rw[hP];omega);have H:=Ctx.start wI [];refine Ax (fn:=f61) func61 U [ptr bs] U (Ad ?_);refine BL U (.int _ _) U (qA ?_);refine BQ [([0,1,2,3,4,5,6,7],8),([9,10,11,12],13)] (fun z=>z.heap[bs]?=some (Bl CV (CK (ptr bd) vj (ptr bp) (ptr bt) gen root m1 m2 0 false))) [] mixed (H.drew.ext.to hs (by simp)) (A7 U U ?_);refine FA U (.pointer _) U (Bg U ?_);refine AF RO U ?_
 refine BO KW U (fun _ hx=>(by rw[Au hx];rfl)) ?_;refine FA U (.pointer _) U (Bg U ?_);refine AF RP U (BO DE U (fun _ hx=>(by rw[Au hx];rfl)) ?_);refine Bj ?_;replace H:=H.drew;refine Ah qB (hwalk _ (T0.call H.ext)) U ?_;rintro v w ⟨a20,c20,rfl,R20,hn20,hc20,hx20⟩;have hsz20:=H.size;replace H:=H.call hx20;refine Ab (Be (H.ext.to hs (by simp)) ?_);refine A7 U U (FA U (.tuple _) U ?_);refine BX U U (BX U U ?_);refine KP U (.slice _ _ _) U (Bj ?_);refine BL U (.int _ _) U (Ab (Be (H.ext.to hs (by simp)) ?_));refine B2 (Aq ?_);refine Ad (B4 (.int _ _) U ?_);refine AN U U (qA ?_);refine Ar _ U ?_ ?_
 .intro h1;replace h1:=Bh h1;exact absurd U h1
 .intro h1;replace h1:=Bi h1;have hs2:=H.ext.to hs (by simp);have T2:=T0.call H.ext;have hx2:=H.ext;obtain⟨wA,hwA⟩:=qD w;rw[<-hwA]at H hs2 T2 hx2 R20 |-;clear H
  have hka:∀{z:World},Ext [ba] wA z->Rd z a20 1 (fun x:Int=>[.int .i64 x]) ks:=fun{z} hz=>by
   rcases hn20 with h|h
   .rw[h];exact Rd.nil
   .exact R20.ext hz fun h5=>by rw[qab.1 h5]at h;omega
  have hpg:∀{z:World} {P:List Nat},Ctx wA [ba] z [(ba,Bl TSt (P.map stv))]->P.length=m->(∀s∈P,s<=3)->PgAt z bp ba P:=fun{z P} Hz hP h3=>⟨by rw[Hz.ext.block bp (Al T2.pg.hd) (by simpa using hbpa),T2.pg.hd,hlen,hP],Hz.get at0,hbpa,h3,by omega⟩;refine Ap (Aa ?_);refine Aq (Ad ?_);refine B4 (.slice _ _ _) U (AP EZ U ?_);refine B4 (.int _ _) U (qA ?_);refine AB ?_;refine BE 4397778075844 (α:=Nat) (fun i=>[(28,.int .i64 (i:Int))]) (fun i w'=>i<=ks.length/\Ctx wA [ba] w' [(ba,Bl TSt ((IL (List.replicate m 0) (ks.take i)).map stv))]) (fun i=>ks.length - i) 0 U ?_ ?_ ?_
  .exact⟨rfl,trivial⟩
  .exact⟨qal _,by rw[qdj];exact Ctx.start1 T2.pg.st⟩
  .rintro i j w1 ⟨hi,H⟩
   have hget:∀x:Nat,(IL (List.replicate m 0) (ks.take i))[x]?=if(x:Int)∈ks.take i then(if x<m then some 1 else none)else if x<m then some 0 else none:=fun x=>by
    rw[UE]
    have h5:(ks.take i).map (fun k=>((k.toNat:Nat):Int))=ks.take i:=by
     have:∀k∈ks.take i,((k.toNat:Nat):Int)=id k:=fun k hk=>by
      obtain⟨y,hy,rfl⟩:=qak.1 (hperm.mem_iff.1 (qbm hk));simp
     rw[qc7 this,List.map_id]
    rw[h5,qd2]
    split <;> split <;> rfl
   have h03:∀s∈IL (List.replicate m 0) (ks.take i),s<=3:=fun s hs5=>by
    obtain⟨x,hx5⟩:=qca.1 hs5;rw[hget]at hx5
    split at hx5 <;> split at hx5 <;> simp at hx5 <;> omega
   have hPG:=hpg H (by rw[JG,hlen]) h03;refine Ad (Bp U U ?_);refine qA (Aq ?_);refine Ar _ U ?_ ?_
   .intro h2;replace h2:=AV h2;obtain⟨k,hk⟩:=AY (l:=ks) (i:=i);obtain⟨y,hy,hyk⟩:=qak.1 (hperm.mem_iff.1 (qaf hk));have hym:=hS y hy
    have hno:(y:Int)∉ks.take i:=fun h5=>by
     obtain⟨j,hj⟩:=qca.1 h5;have hj2:=(qar.1 hj).1;rw[qay]at hj2;rw[qei,if_pos (by omega)]at hj;obtain⟨q1,q2⟩:=qar.1 hj;obtain⟨q3,q4⟩:=qar.1 hk;exact qbz.1 hkn j i q1 q3 (by omega) (by rw[q2,q4,hyk])
    have h0:(IL (List.replicate m 0) (ks.take i))[y]?=some 0:=by rw[hget,if_neg hno,if_pos hym]
    refine Ap (Aa ?_);refine Aq (AB ?_);refine Ad (Bo (hka H.ext) EZ H1 U U (hn:=by rfl) ?_);refine Bq DE U (((hka H.ext).one hk)) (BL U (.int _ _) U ?_);refine qA (Ad ?_);refine B4 (.pointer _) U (AD U ?_);refine Af RN U ?_;refine Bq Od U ((by rw[Au (H.ext.to hs2 (by simpa using hbsa))];rfl)) ?_;refine B4 (.int _ _) U ?_;rw[<-hyk];refine Ah qB (Afn hPG y h0) U ?_;rintro v w ⟨rfl,hP7,hx37⟩;replace H:Ctx wA [ba] w [(ba,Bl TSt ((IL (List.replicate m 0) (ks.take (i+1))).map stv))]:=⟨H.ext.trans hx37,(fun z hz=>by rw[qab.1 hz,Bt hk,YY,<-hyk,qbi];exact hP7.st),qea _ _,fun z hz => .inl (by rw[qab.1 hz];exact qab.2 rfl)⟩;refine BL U (.int _ _) U (qA ?_);refine Ad (B4 (.int _ _) U ?_);refine AN U U ?_
    refine qA (Ar _ U ?_ ?_)
    .intro h3;replace h3:=Bh h3;exact absurd U h3
    .intro h3;replace h3:=Bi h3;refine Ap (AH (Aa ?_));refine A5 (A8 U U ?_);refine B4 (.int _ _) U (qA ?_);exact⟨i+1,rfl,⟨rfl,trivial⟩,⟨by omega,H⟩,by omega⟩
   .intro h2;replace h2:=AW h2;obtain rfl:i=ks.length:=by omega
    rw[qbf]at H hPG;obtain⟨T3,-⟩:=T2.page hPG H.ext;have hxA:Ext [ba] wI w1:=(hx2.mono (by simp)).trans H.ext;have hs3:=H.ext.to hs2 (by simpa using hbsa);have hP3:=H.get at0;obtain⟨wC,hwC⟩:=qD w1;rw[<-hwC]at T3 hxA hs3 hP3 |-;clear H hPG hpg hka;have H:=Ctx.start wC [];refine B9 (A6 (A6 (Bd (Aa ?_))));refine BQ [([0,1,2,3,4,5,6,7],8),([9,10,11,12],13)] (fun z=>z.heap[bs]?=some (Bl CV (CK (ptr bd) vj (ptr bp) (ptr bt) gen root m1 m2 0 false))) [] mixed (H.drew.ext.to hs3 (by simp)) (A7 U U ?_);refine FA U (.pointer _) U (Bg U ?_);refine AF RO U (BO KW U (fun _ hx=>(by rw[Au hx];rfl)) ?_);refine FA U (.pointer _) U (Bg U ?_);refine AF RP U (BO DE U (fun _ hx=>(by rw[Au hx];rfl)) ?_);refine Bj ?_;replace H:=H.drew;refine Ah qB (hscan _ _ (JG _ _) (T3.call H.ext)) U ?_;rw[JG,hsc]
    dsimp only;rintro v w ⟨a51,c51,rfl,P51,hx51⟩;have hsz51:=H.size;replace H:=H.call hx51;refine Ab (Be (H.ext.to hs3 (by simp)) ?_);refine A7 U U (FA U (.tuple _) U ?_);refine BX U U (BX U U ?_);refine KP U (.slice _ _ _) U (Bj ?_);refine BL U (.int _ _) U (Ab (Be (H.ext.to hs3 (by simp)) ?_));refine B2 (Aq ?_);refine Ad (B4 (.slice _ _ _) U ?_);refine AP EY U (B4 (.int _ _) U ?_);refine qA (AB ?_);obtain⟨ps,R9,hn9,hl9,hp9⟩:=P51.ex;have hpn:ps.length=L.length:=by rw[<-hl9,qan]
    obtain⟨wB,hwB⟩:=qD w;rw[<-hwB]at H R9 hp9 |-;have hCB:=H.ext;have hIB:Ext [ba] wI wB:=hxA.trans (hCB.mono (by simp));clear H
    have hne:∀y∈[bs,m1,m2],y∉[ba]:=fun y hy=>by
     simp only[qaa,qaj,or_false]at hy |-
     rcases hy with rfl|rfl|rfl
     .exact hbsa
     .exact hm1a
     .exact hm2a
    have hS3:∀y∈[bs,m1,m2],Old wI y:=fun y hy=>by
     simp only[qaa,qaj,or_false]at hy
     rcases hy with rfl|rfl|rfl
     .exact Al hs
     .exact Al hb1
     .exact Al hb2
    have hIBs:=hIB.size;have hwIC:wI.heap.size<=wC.heap.size:=hxA.size;have hk0:∀x∈L,(toW x).Few:=fun x hx=>⟨(ho x hx).2.1,(ho x hx).2.2⟩;refine BE 295075847585314898944 (α:=Nat × List (Byt × Sv) × Obj × Obj) (fun s=>[(56,.int .i64 (s.1:Int))]) (fun s w'=>s.1<=L.length/\Sr wB (Old wI) bs m1 m2 (ptr bd) vj (ptr bp) (ptr bt) gen root [] 0 [] ((L.map toW).take s.1) s.2.1 s.2.2.1 s.2.2.2 w') (fun s=>L.length - s.1) (0,[],o1,o2) U ?_ ?_ ?_
    .exact⟨rfl,trivial⟩
    .refine⟨qal _,Ctx.startL (L:=[(bs,Bl CV (CK (ptr bd) vj (ptr bp) (ptr bt) gen root m1 m2 0 false)),(m1,o1),(m2,o2)]) (fun y hy=>?_) hndT,⟨hm1,(fun q hq=>by cases hq),fun q hq=>by cases hq⟩,rfl,hm2⟩;simp only[qaa,qaj,or_false]at hy
     rcases hy with rfl|rfl|rfl
     .exact hIB.to hs (by simpa using hbsa)
     .exact hIB.to hb1 (by simpa using hm1a)
     .exact hIB.to hb2 (by simpa using hm2a)
    .rintro⟨i,li,z1,z2⟩ j w1 ⟨hi,C⟩;dsimp only at hi C;dsimp only;have H:=Ctx.start w1 [];refine Ad (Bp U U ?_);refine qA (Aq ?_);refine Ar _ U ?_ ?_
     .intro h4;replace h4:=AV h4;obtain⟨q,hq⟩:=AY (l:=ps) (i:=i);have hok:=hp9 q (qaf hq);have hqL:L[i]?=some (prI q.it):=by rw[<-hl9,qax,hq];rfl
      have hqW:(L.map toW)[i]?=some (toW (prI q.it)):=by rw[qax,hqL];rfl
      have hqf:=hk0 _ (qaf hqL);have hoff:∀y∈[bs,m1,m2],¬wB.heap.size<=y:=fun y hy=>by have:=hS3 y hy;have h5:y<wI.heap.size:=this;omega
      have hk9:Rdx w1 (Old wI) q.ka q.it.key:=⟨Rdx.read hok.k C.H.ext (fun y hy=>by have h5:y<wI.heap.size:=hS3 y hy;show y<_;omega),hok.k.2.imp id fun h5 h6=>h5 (by have h7:_<wI.heap.size:=h6;show _<_;omega)⟩;have hv9:Rdx w1 (Old wI) q.va q.it.val:=⟨Rdx.read hok.v C.H.ext (fun y hy=>by have h5:y<wI.heap.size:=hS3 y hy;show y<_;omega),hok.v.2.imp id fun h5 h6=>h5 (by have h7:_<wI.heap.size:=h6;show _<_;omega)⟩
      have R9w:Rd w1 a51 2 K1 ps:=by
       rcases hn9 with h5|h5
       .rw[h5];exact Rd.nil
       .exact R9.ext C.H.ext fun h6=>h5 (by have h7:_<wI.heap.size:=hS3 _ h6;show _<_;omega)
      refine Ap (Aa ?_);refine Aq (AB ?_);refine Ad (Bo R9w EY Gv U U ?_);refine EK _ Afx Gv U U (R9w.row hq U) (Bf Ki H ?_);rintro b10 w - H;refine Bc Gv U U U (by exact LJ q) H (by exact at0) U ?_;rintro w H;refine qA (A5 ?_);refine B4 (.pointer _) U (Af Nu U ?_);refine AG BF U H (by exact at0) U (Af RM U ?_);refine AG BF U H (by exact at0) U (Bw (CZ ⟨q.ka,q.kc,q.va,q.vc,toW (prI q.it)⟩) Tt GR ?_)
      refine Ah qB (C.step (T:=0) H.ext hS3 (fun y hy=>by have h5:y<wI.heap.size:=hy;omega) ⟨q.ka,q.kc,q.va,q.vc,toW (prI q.it)⟩ ⟨hk9.call H.ext,hv9.call H.ext,hok.kc,hok.vc⟩ hqf (by rw[qay,qan];omega) (fun y hy=>by cases hy) (by omega) (fun y hy=>by cases hy) (fun x hx=>by obtain⟨y,hy,rfl⟩:=qak.1 (qbm hx);exact hk0 y hy)) U ?_;rintro v w7 ⟨rfl,l7,z17,z27,C7,-⟩;refine Ab (AH (Aa ?_));refine A5 (A8 U U ?_);refine B4 (.int _ _) U (qA ?_);exact⟨(i+1,l7,z17,z27),rfl,⟨rfl,trivial⟩,⟨by dsimp only;omega,by dsimp only;rw[Bt hqW];exact C7⟩,by dsimp only;omega⟩
     .intro h4;replace h4:=AW h4;obtain rfl:i=L.length:=by omega
      have hLt:(L.map toW).take L.length=L.map toW:=qa3 (by rw[qan];omega);rw[hLt]at C;refine B9 (A6 (A6 (Bd (Aa ?_))));refine Ad (B4 (.pointer _) U ?_);refine AD U (Af W2 U ?_);refine Bq Afy U ((by rw[Au (C.H.get at0)];rfl)) ?_;refine XJ (V:=str) (κ:=Byt) U Qh U (Ctx.startL C.H.blk C.H.nd) at2 C.m ?_;rintro o2' w hM2 HM2;refine qA (Ad ?_);refine B4 (.int _ _) U (BL U (.int _ _) U ?_);refine qA (Aw (AE (v:=(.int _ _)) U U U ?_))
      have hab:w.heap[ba]?=some (Bl TSt ((IL (List.replicate m 0) ks).map stv)):=by
       have h6:=(C.H.ext.trans HM2.ext).to (hCB.to hP3 (by simp)) (fun h5=>hne _ h5 (by simp));exact h6
      have hw1:Ext [bs,m1,m2] w1 w:=HM2.ext;have hKw:KvAt w (Old wI) li z1:=⟨C.K.m,(fun p hp=>⟨⟨Rdx.read (C.K.ok p hp).1 hw1 (fun y hy=>hS3 y hy),(C.K.ok p hp).1.2⟩,(C.K.ok p hp).2⟩),C.K.few⟩;refine⟨rfl,li,z1,o2',⟨(hIB.mono (by simp)).trans ((C.H.ext.trans hw1).mono (by simp +contextual)),fun y hy=>?_,?_,fun y hy => .inl ?_⟩,hKw,C.k,hM2⟩
      .simp only[qaa,qaj,or_false]at hy
       rcases hy with rfl|rfl|rfl|rfl
       .exact HM2.get at0
       .exact HM2.get at1
       .exact HM2.get at2
       .exact hab
      .have h5:=HM2.nd;have h6:=hne bs (by simp);have h7:=hne m1 (by simp);have h8:=hne m2 (by simp);simp only[qab]at h6 h7 h8;simp only[List.set_cons_succ,List.set_cons_zero,qbh,qaa,qaj,or_false,forall_eq_or_imp,forall_eq,List.Pairwise.nil,and_true]at h5 |-;exact⟨⟨h5.1.1,h5.1.2,h6⟩,⟨h5.2.1,h7⟩,h8,fun _ h=>h.elim⟩
      .simp only[qaa,qaj,or_false]at hy |-
       rcases hy with rfl|rfl|rfl|rfl <;> simp
section
variable {w0 w:World}{b16 b11 b10 b8 b1 bd bs gen m1 m2:Nat}{F:Mut}{A:Dev}{N frm:Nat}{R:Rj}{V:Nat->Byt}{fv:List Value}{vj vp vt:Value}{root n r0:Int}{pq qq:Nat}{Y:List (Nat × Obj)}
theorem VW(O:Own w0 w bd A F)(g:Good N frm A R)(h1:1<=R.seq)(h2:R.seq<=4611686018427387904) :
  Ret prog 34 #[ptr bd,.int .i64 (frm:Int),.int .i64 (R.size:Int),.int .i64 (R.first:Int),.int .u64 (R.seq:Int)] w fun v w'=>∃bj a n c,v=.tuple #[ptr bj,.slice a n c,.int .i64 0]/\Ext [] w w'/\w.heap.size<=bj/\Jone w0 w' bd bj A (jrK frm R R.L) F/\StrsF w.heap.size w' a n c R.L:=by
 have hr:=g.right h1 h2;have hr2:=hr;simp only[Dp,qao,qaq]at hr2;have hhi:=O.dev.wf.hi;refine(QL (frm:Int) (R.size:Int) (R.first:Int) R.seq (by omega) (by omega) hhi g.on g.few (by decide) O.dev).mono fun v w' ⟨hx,h⟩=>?_
 rcases h with⟨h1,_⟩|⟨_,bj,a,n,c,hv,hb,hj,hs⟩
 .rw[hr]at h1;cases h1
 .have hsz:=O.ext.size;rw[g.open]at hj hs;exact⟨bj,a,n,c,hv,hx,hb,⟨O.call hx,hj,fun h5=>by have:=(O.own bj h5).2;omega,by omega⟩,hs⟩
abbrev VX(b16 b11 b10 b8 b1 bs bd gen m1 m2 pq qq:Nat)(root n r0:Int)(fv:List Value)(vj vp vt vl:Value):List (Nat × Obj) :=
 [(b16,Bl 46 fv),(b11,Bl 69 [vl]),(b10,Bl 31 [ptr bs]),(b8,Bl Acx (tpC r0 pq qq)),(b1,Bl 27 [ptr bd]),(bs,Bl CV (CK (ptr bd) vj vp vt gen root m1 m2 n false))]
theorem Adf(O:Own w0 w bd A F)(hge:w0.heap.size<=bs/\w0.heap.size<=b11)(g:SG N A R V)(hR:R.size=360/\R.first=pq/\R.seq=qq/\1<=qq/\qq<=4611686018427387904)(Y:Fo w F (VX b16 b11 b10 b8 b1 bs bd gen m1 m2 pq qq root n r0 fv vj vp vt (.slice none 0 0)++Y)) :
  Ret prog 62 #[ptr b1,ptr b8,ptr b10,ptr b11] w fun v w'=>v=.int .i64 0/\∃bj al nl cl,w.heap.size<=bj/\Jone w0 w' bd bj A (jrK 2 R R.L) F/\Ctx w [bs,b11] w' [(bs,Bl CV (CK (ptr bd) (ptr bj) vp vt gen root m1 m2 n false)),(b11,Bl 69 [.slice al nl cl])]/\StrsF w.heap.size w' al nl cl R.L:=by
 obtain⟨hz,rfl,rfl,hq1,hq2⟩:=hR;obtain⟨wI,rfl⟩:=qD w;have h1:=Fo.at Y (k:=4) rfl;have h10:=Fo.at Y (k:=2) rfl;have h8:=Fo.at Y (k:=3) rfl;have hs:=Fo.at Y (k:=5) rfl;have h11:=Fo.at Y (k:=1) rfl;have hnd:=Y.nd;simp only[qb8,qa7,qbh,qaa,forall_eq_or_imp]at hnd;obtain⟨-,⟨n1,n2,n3,n4,-⟩,⟨n5,n6,n7,-⟩,⟨n8,n9,-⟩,⟨n10,-⟩,-⟩:=hnd;have hb1:b1∉[bs,b11]:=by simp only[qaa,qaj,or_false,not_or];exact⟨n10,fun h=>n3 h.symm⟩
 have hb10:b10∉[bs,b11]:=by simp only[qaa,qaj,or_false,not_or];exact⟨n7,fun h=>n1 h.symm⟩
 have hb8:b8∉[bs,b11]:=by simp only[qaa,qaj,or_false,not_or];exact⟨n9,fun h=>n2 h.symm⟩
 have hopen:=fun(w1:World) (O1:Own w0 w1 bd A F)=>VW O1 g.good hq1 hq2;rw[hz]at hopen
 have H0:∀{z:World},Ext [] wI z->Ctx z [bs,b11] z [(bs,Bl CV (CK (ptr bd) vj vp vt gen root m1 m2 n false)),(b11,Bl 69 [.slice none 0 0])]:=fun hx=>Ctx.startL (L:=[(bs,Bl CV (CK (ptr bd) vj vp vt gen root m1 m2 n false)),(b11,Bl 69 [.slice none 0 0])]) (fun y hy=>by
  simp only[qaa,qaj,or_false]at hy
  rcases hy with rfl|rfl
  .exact hx.to hs (by simp)
  .exact hx.to h11 (by simp)) (List.Pairwise.cons (fun y hy=>by rw[qab.1 hy];exact fun h=>n4 h.symm) (qea _ _))
 have H:=H0 (Ext.refl [] wI);refine Ax (fn:=f62) func62 U [ptr b1,ptr b8,ptr b10,ptr b11] U ?_;refine Ad (Ac U (qA (BQ [([0,1,2,3,4,5],6),([7,8,9,10,11,12],13),([],14),([],15)] (fun z=>(z.heap[b1]?=some (Bl 27 [ptr bd])/\z.heap[b10]?=some (Bl 31 [ptr bs])/\z.heap[b8]?=some (Bl Acx (tpC r0 R.first R.seq)))) [13,14,15] mixed (⟨H.drew.ext.to h1 hb1,H.drew.ext.to h10 hb10,H.drew.ext.to h8 hb8⟩) ?_)));refine A7 U U (BO HJ U (fun _ hx=>(by rw[Au hx.2.1];rfl)) ?_);refine BO Cy U (fun _ hx=>(by rw[Au hx.1];rfl)) ?_;refine AF Lh U (BO DE U (fun _ hx=>(by rw[Au hx.2.2];rfl)) ?_);refine AF Ik U (BO FT U (fun _ hx=>(by rw[Au hx.2.2];rfl)) ?_);refine Bj ?_;replace H:=H.drew;refine Ah qB (hopen _ (O.call (Ext.drew [] wI))) U ?_;clear H;rintro v w6 ⟨bj,aj,nj,cj,rfl,hx6,hbj,J6,S6⟩;have E6:=(Ext.drew [] wI).trans hx6
 have k1:=E6.to h1 (by simp);have k10:=E6.to h10 (by simp);have k8:=E6.to h8 (by simp);have H:=H0 E6;refine Ab (Be ((by exact⟨H.ext.to k1 hb1,H.ext.to k10 hb10,H.ext.to k8 hb8⟩)) ?_);refine A7 U U (Ic U (BX U U (BX U U (BX U U (Bg U (AF Nw U (Bj (Bk (.pointer _) Agh U U U H at0 (by(simp;done)) ?_))))))));rintro w H;refine Ab (CD U (A7 U U ?_));refine Bj (Bk (.slice _ _ _) sz_69 U U U H at1 (by decide) ?_);rintro w H;refine Ab (CD U (A7 U U ?_));refine Bj (Ac U (Ab (CD U (B2 (Ad (Ae U (Ac U (qA (Aw (AE (v:=(.int _ _)) U U U ?_))))))))))
 have hlt:∀y∈[bs,b11],y<wI.heap.size:=fun y hy=>by
  simp only[qaa,qaj,or_false]at hy
  rcases hy with rfl|rfl
  .exact Al hs
  .exact Al h11
 have hoff:∀y∈[bs,b11],¬Fj F bj y:=fun y hy h=>by
  have h5:=hlt y hy;have h6:wI.heap.size<=bj:=hbj
  rcases h with h|h
  .simp only[qaa,qaj,or_false]at hy
   rcases hy with rfl|rfl
   .exact Y.off (y,Bl CV (CK (ptr bd) vj vp vt gen root m1 m2 n false)) (by simp) h
   .exact Y.off (y,Bl 69 [.slice none 0 0]) (by simp) h
  .omega
 refine⟨rfl,bj,aj,nj,cj,hbj,J6.over H.ext hoff (fun y hy=>?_),⟨(E6.mono (by simp)).trans H.ext,H.blk,H.nd,fun y hy => .inl ?_⟩,S6.side H.ext hlt⟩
 .simp only[qaa,qaj,or_false]at hy
  rcases hy with rfl|rfl
  .exact hge.1
  .exact hge.2
 .simp only[qaa,qaj,or_false]at hy |-
  rcases hy with rfl|rfl
  .exact .inl U
  .exact .inr U
end
theorem VY(w:World):Ret prog 16 #[.pointer none] w fun v w'=>v=.int .i64 2/\Ext [] w w':=by
 obtain⟨w0,rfl,H⟩:=qE w;refine Ax (fn:=f16) func16 U [.pointer none] U (Ad (BN _ (.pointer _) U U H ?_));rintro b1 w - H;refine Ac U (qA (Aq (Ad (AG HJ U H at0 U (Ah qB (HS _) U ?_)))));rintro v w ⟨rfl,rfl⟩;refine Ac U (qA (Ad (Ae U (AN U U (qA (Ar _ U ?_ ?_))))))
 .intro h1;replace h1:=Bh h1;refine Ad (Ae U (Ac U (qA (Aw (An (AE (v:=(.int _ _)) U U U ?_))))));exact⟨rfl,H.ext⟩
 .intro h1;replace h1:=Bi h1;cases h1
theorem VZ{α:Type}{L:List (List α)}{i:Nat}{x:List α}(h:L[i]?=some x):(L.take (i+1)).flatten=(L.take i).flatten++x:=by
 rw[Bt h,qdn,qdo]
theorem QT{α:Type}{L:List (List α)}{m:Nat}:(∀x∈L,x.length<=m)->L.flatten.length<=m*L.length:=by
 induction L with
 |nil=>intro _;simp
 |cons x L ih =>
  intro h;have h1:=ih fun y hy=>h y (qah _ hy);have h2:=h x (qad ..);rw[List.flatten_cons,qam,qaw,Nat.mul_add,qb7];omega
theorem Adg{w:World}{b10 b11 bs m1 m2 gen N nl cl:Nat}{al:Option Addr}{vd vj vp vt:Value}{root n T:Int}{M:Mut}{l:List (Byt × Sv)}{o1 o2:Obj}{Ws:List (List Wr)}(hb11:w.heap[b11]?=some (Bl 69 [.slice al nl cl]))(hb10:w.heap[b10]?=some (Bl 31 [ptr bs]))(S:StrsF N w al nl cl (Ws.map opB))(hN:∀y∈[bs,m1,m2],y<N)(h10:b10∉[bs,m1,m2])(_:b11∉[bs,m1,m2])(H:Ctx w [bs,m1,m2] w [(bs,Bl CV (CK vd vj vp vt gen root m1 m2 n false)),(m1,o1),(m2,o2)])(K:KvAt w M l o1)(hM2:Ec str (mi []) o2)(hS:∀y∈[bs,m1,m2],M y)(hMb:∀y,M y->y<w.heap.size)(hW:∀W∈Ws,W.length<=1000/\∀x∈W,x.Few)(hWn:Ws.length<=400)(hT:0<=T/\T<=1000000:=by omega)(hn: -(200*T)<=n/\n<=200*T:=by omega):
  Ret prog 63 #[ptr b11,ptr b10] w fun v w'=>v=.int .i64 0/\∃l' z1 z2,Sr w M bs m1 m2 vd vj vp vt gen root (Gu l) n [] Ws.flatten l' z1 z2 w':=by
 obtain⟨wI,rfl⟩:=qD w;obtain⟨xs,RS,hxl,hxr,hxa,hxn⟩:=S.ex;have hnl:=S.num;have hxlen:xs.length=Ws.length:=by rw[<-qan (f:=opB),<-hxl,qan]
 rw[qan]at hnl;have hkv:=K.fewK
 have hall:∀i,(∀x∈(Ws.take i).flatten,x.Few)/\(Ws.take i).flatten.length<=400000:=fun i=>by
  refine⟨fun x hx=>?_,?_⟩
  .obtain⟨W,hW1,hW2⟩:=List.mem_flatten.1 hx;exact(hW W (qbm hW1)).2 x hW2
  .have h5:=QT (L:=Ws.take i) (m:=1000) fun W hW1=>(hW W (qbm hW1)).1;have h6:=List.length_take_le' i Ws;have h7:1000*(Ws.take i).length<=1000*400:=qb0 _ (by omega);omega
 have hx9:∀{z:World},Ext [bs,m1,m2] wI z->Rd z al 1 Abl xs:=fun{z} hz=>by
  rcases hxa with h5|h5
  .rw[h5];exact Rd.nil
  .exact RS.ext hz fun h6=>by have:=hN _ h6;omega
 refine Ax (fn:=f63) func63 U [ptr b11,ptr b10] U (Ad (Ac U (qA (Aq (Ad (Bq Qd U ((by rw[Au hb11];rfl)) ?_))))));refine AP DR U (Ae U (qA (AB (BE 33554000 (α:=Nat × List (Byt × Sv) × Obj × Obj) (fun s=>[(9,.int .i64 (s.1:Int))]) (fun s w'=>s.1<=nl/\Sr wI M bs m1 m2 vd vj vp vt gen root (Gu l) n [] (Ws.take s.1).flatten s.2.1 s.2.2.1 s.2.2.2 w') (fun s=>nl - s.1) (0,l,o1,o2) U ?_ ?_ ?_))))
 .exact⟨rfl,trivial⟩
 .exact⟨qal _,H,K,rfl,hM2⟩
 .clear H K hM2;rintro⟨i,li,z1,z2⟩ j w1 ⟨hi,C⟩;dsimp only at hi C;dsimp only;refine Ad (Bp U U (qA (Aq (Ar _ U ?_ ?_))))
  .intro h1;replace h1:=AV h1;obtain⟨x,hx⟩:=AY (l:=xs) (i:=i);obtain⟨W,hWi⟩:=AY (l:=Ws) (i:=i)
   have hxW:x.2.1=opB W:=by
    have h5:(xs.map fun x=>x.2.1)[i]? = (Ws.map opB)[i]? := by rw[hxl]
    rw[qax,qax,hx,hWi]at h5;exact qbr h5
   obtain⟨hW1,hW2⟩:=hW W (qaf hWi);have hxR:=hxr x (qaf hx);obtain⟨xa,xb,xc⟩:=x;dsimp only at hxW;subst hxW
   have hRx:Rd w1 xa 1 B8 (opB W):=by
    rcases hxn _ (qaf hx)with h5|h5
    .dsimp only at h5;rw[h5];exact Rd.nil
    .exact hxR.1.ext C.H.ext fun h6=>by have:=hN _ h6;dsimp only at h5 this;omega
   refine Ap (Aa (Aq (AB (Ad (Bo (hx9 C.H.ext) DR Ez U U ?_)))));refine Bq BF U (((hx9 C.H.ext).one hx)) (Ai U (qA (Ad (Aj U (Ah qB (Aid xa xc (opB W).length W hRx U hxR.2 hW2 hW1) U ?_)))));rintro v w ⟨a14,c14,rfl,X14,hx14⟩;refine AP FU U (Ae U (qA (AB ?_)));obtain⟨ps,R9,hn9,hl9,hp9⟩:=X14.ex;have hpn:ps.length=W.length:=by rw[<-hl9,qan]
   obtain⟨wB,hwB⟩:=qD w;rw[<-hwB]at hx14 R9 hp9 |-;have CB:=C.call hx14;have hsz1:=C.H.ext.size;have hfl:=hall i;refine BE 16711744 (α:=Nat × List (Byt × Sv) × Obj × Obj) (fun s=>[(16,.int .i64 (s.1:Int))]) (fun s w'=>s.1<=W.length/\Ext [bs,m1,m2] wB w'/\Sr wI M bs m1 m2 vd vj vp vt gen root (Gu l) n [] ((Ws.take i).flatten++W.take s.1) s.2.1 s.2.2.1 s.2.2.2 w') (fun s=>W.length - s.1) (0,li,z1,z2) U ?_ ?_ ?_
   .exact⟨rfl,trivial⟩
   .exact⟨qal _,Ext.refl _ _,by rw[qdj,qa2];exact CB⟩
   .rintro⟨k,lk,y1,y2⟩ jj w2 ⟨hk,hE,D⟩;dsimp only at hk hE D;dsimp only;have H:=Ctx.start w2 [];refine Ad (Bp U U (qA (Aq (Ar _ U ?_ ?_))))
    .intro h2;replace h2:=AV h2;obtain⟨q,hq⟩:=AY (l:=ps) (i:=k);have hok:=hp9 q (qaf hq);have hqW:W[k]?=some q.x:=by rw[<-hl9,qax,hq];rfl
     have hqf:=hW2 _ (qaf hqW);have hMw:∀y,M y->y<w1.heap.size:=fun y hy=>by have:=hMb y hy;omega
     have hok2:q.Ok w2 M:=⟨⟨Rdx.read hok.k hE fun y hy=>hMw y (hS y hy),hok.k.2.imp id fun h5 h6=>h5 (hMw _ h6)⟩,⟨Rdx.read hok.v hE fun y hy=>hMw y (hS y hy),hok.v.2.imp id fun h5 h6=>h5 (hMw _ h6)⟩,hok.kc,hok.vc⟩
     have R9w:Rd w2 a14 3 CZ ps:=by
      rcases hn9 with h5|h5
      .rw[h5];exact Rd.nil
      .exact R9.ext hE fun h6=>h5 (hMw _ (hS _ h6))
     have hbs2:=D.H.get at0;refine Ap (Aa (Aq (AB (Ad (Bo R9w FU EA U U ?_)))));refine EK _ Ob EA U U (R9w.row hq U) (Bf GR H ?_);rintro b6 w - H;refine Bc EA U U U (by exact GI q) H at0 U ?_;rintro w H;refine qA (A5 (Bq HJ U ((by rw[Au (H.ext.to (D.H.ext.to hb10 h10) (by simp))];rfl)) ?_));refine BH Ob EA U H at0 U (Ah qB (D.step (T:=T) H.ext hS hMb q (hok2.call H.ext) hqf (by rw[qam];have:=List.length_take_le' k W;omega) (fun y hy=>by cases hy) hn hkv (fun y hy=>(qat.1 hy).elim (hfl.1 y) fun h=>hW2 y (qbm h))) U ?_);rintro v w7 ⟨rfl,l7,z17,z27,C7,E7⟩;refine Ab (AH (Aa (A5 (A8 U U ?_))));refine Ae U (qA ?_)
     refine⟨(k+1,l7,z17,z27),rfl,⟨rfl,trivial⟩,⟨by dsimp only;omega,?_,by dsimp only;rw[Bt hqW,<-qa1];exact C7⟩,by dsimp only;omega⟩;exact hE.trans ((H.ext.mono (by simp)).trans E7)
    .intro h2;replace h2:=AW h2;obtain rfl:k=W.length:=by omega
     refine B9 (A6 (A6 (Bd (AH (Aa (A5 (A8 U U ?_)))))));refine Ae U (qA ?_);exact⟨(i+1,lk,y1,y2),rfl,⟨rfl,trivial⟩,⟨by dsimp only;omega,by dsimp only;rw[VZ hWi];rw[qbf]at D;exact D⟩,by dsimp only;omega⟩
  .intro h1;replace h1:=AW h1;obtain rfl:i=nl:=by omega
   rw[qa3 (by omega)]at C;refine B9 (A6 (A6 (Bd (Aa (Ad (Ac U (qA (Aw (AE (v:=(.int _ _)) U U U ?_)))))))));exact⟨rfl,li,z1,z2,C⟩
theorem SC{P:Program}{r:Option Nat}{ops rest:List Oper}{Q:Exit->Env->World->Prop}{e:Env}{w:World}{dst:Option Tmp}{ty:TypeId}{pos:String}{af:Array Edge}{g:Option (Nat × Bool)}{fn:Fn}{x:Operand}(v:Value)(hg:AC ⟨dst,.makeFunc fn #[x] #[],ty,pos,af,g⟩ ops e=true)(hx:ev e x=v)(h:Ay P r ops Q rest (put e dst (.func fn #[v] #[])) w) :
  Ay P r ops Q (⟨dst,.makeFunc fn #[x] #[],ty,pos,af,g⟩::rest) e w:=by
 refine ML hg ?_;have h1:(#[x]:Array Operand).map (ev e)=#[v]:=by simp[hx]
 have h2:(#[]:Array Operand).map (ev e)=#[]:=by simp
 rw[h1,h2];exact h
section
variable {w0 wI wb w w':World}{b16 b11 b10 b8 b1 bd bs bp ba bt gen m1 m2 m:Nat}{F:Mut}{A:Dev}{R:Rj}{V:Nat->Byt}{root:Int}{pq qq:Nat}{o1 o2:Obj}{L0:List Pr}{S:List Nat}{Ws:List (List Wr)}
theorem SD{M:Mut}{T:List Nat}{Z Z':List (Nat × Obj)}(h:Fo w M Z)(hx:Ext T w w')(hk:Z'.map (·.1)=Z.map (·.1))(hb:∀y∈Z',w'.heap[y.1]?=some y.2\/(y∈Z/\y.1∉T)):Fo w' M Z':=by
 refine⟨fun y hy=>?_,?_,fun y hy=>?_⟩
 .rcases hb y hy with h1|⟨h1,h2⟩
  .exact h1
  .exact hx.to (h.blk y h1) h2
 .have h1:(Z.map (·.1)).Pairwise (·≠·):=qbn.2 h.nd;rw[<-hk]at h1;exact qbn.1 h1
 .have h1:y.1∈Z'.map (·.1):=qak.2 ⟨y,hy,rfl⟩;rw[hk]at h1;obtain⟨z,hz,he⟩:=qak.1 h1;rw[<-he];exact h.off z hz
theorem fo_lt{M:Mut}{Z Z':List (Nat × Obj)}(h:Fo w M Z)(hk:Z'.map (·.1)=Z.map (·.1)):∀y∈Z',y.1<w.heap.size:=fun y hy=>by
 have h1:y.1∈Z'.map (·.1):=qak.2 ⟨y,hy,rfl⟩;rw[hk]at h1;obtain⟨z,hz,he⟩:=qak.1 h1;rw[<-he];exact Al (h.blk z hz)
theorem CW{M:Mut}{Z:List (Nat × Obj)}(h:Fo w M Z){k:Nat}{y:Nat × Obj}(hk:Z[k]?=some y)(I:List Nat)(hI:(I.all fun i=>decide (i≠k))=true):y.1∉I.filterMap fun i=>Z[i]?.map (·.1):=fun hm=>by
 obtain⟨i,hi,he⟩:=List.mem_filterMap.1 hm;obtain⟨z,hz,he⟩:=qeo.1 he;have hik:i≠k:=by simpa using qby.1 hI i hi
 obtain⟨q1,q2⟩:=qar.1 hz;obtain⟨q3,q4⟩:=qar.1 hk
 rcases Nat.lt_or_gt_of_ne hik with h5|h5
 .exact qbz.1 h.nd i k q1 q3 h5 (by rw[q2,q4];exact he)
 .exact qbz.1 h.nd k i q3 q1 h5 (by rw[q2,q4];exact he.symm)
theorem Gk{M:Mut}{Z:List (Nat × Obj)}(h:Fo w M Z)(i j:Nat){a b:Nat}{o o':Obj}(hi:Z[i]?=some (a,o))(hj:Z[j]?=some (b,o'))(hij:i≠j:=by decide):a≠b:=fun e=>by
 obtain⟨q1,q2⟩:=qar.1 hi;obtain⟨q3,q4⟩:=qar.1 hj
 rcases Nat.lt_or_gt_of_ne hij with h5|h5
 .exact qbz.1 h.nd i j q1 q3 h5 (by rw[q2,q4];exact e)
 .exact qbz.1 h.nd j i q3 q1 h5 (by rw[q2,q4];exact e.symm)
theorem UF{a b c:Nat}{x y z:Obj}(h1:a≠b)(h2:a≠c)(h3:b≠c):[(a,x),(b,y),(c,z)].Pairwise fun p q=>p.1≠q.1:=by
 simp[h1,h2,h3]
theorem fo_fj{bj:Nat}{Z:List (Nat × Obj)}(h:Fo w F Z)(hb:∀y∈Z,y.1≠bj):Fo w (Fj F bj) Z:=⟨h.blk,h.nd,fun y hy h5=>h5.elim (h.off y hy) (hb y hy)⟩
theorem Own.over{T:List Nat}(O:Own w0 w bd A F)(hx:Ext T w w')(hS:∀y∈T,¬F y)(hge:∀y∈T,w0.heap.size<=y):Own w0 w' bd A F :=
 ⟨O.ext.then hx fun y hy => .inr (hge y hy),O.dev.keep hx hS,fun y h=>by have:=O.own y h;have:=hx.size;omega⟩
abbrev opF(b11 b10 b8 b1 bs:Nat):List Value:=[.func (.func 61) #[ptr bs] #[],.func (.func 62) #[] #[ptr b1,ptr b8,ptr b10,ptr b11],.func (.func 63) #[] #[ptr b11,ptr b10]]
abbrev opY(m1 m2 bp ba bt bd m:Nat)(P:List Nat)(z1 z2:Obj):List (Nat × Obj):=[(m2,z2),(m1,z1),(bp,Bl TPg [.slice (some ⟨ba,0,none⟩) m m]),(ba,Bl TSt (P.map stv)),(bt,Bl TT (Q1 bd bp 362))]
abbrev kv1(L0:List Pr):Kvl:=EG [] (L0.map toW)
abbrev pgU(m:Nat)(S:List Nat):List Nat:=IL (List.replicate m 0) (IB (S.map fun x:Nat=>(x:Int)))
def Mb(wb:World)(bj:Nat):Mut:=fun y=>y<wb.heap.size\/y=bj
def opI(w0 wI wb:World)(b16 b11 b10 b8 b1 bs bd bp ba bt gen m1 m2 m:Nat)(root:Int)(L0:List Pr)(S:List Nat)(Ws:List (List Wr))(o1 o2:Obj)(A:Dev)(R:Rj)(F:Mut):Nat->World->Prop
 |0,w'=>Own w0 w' bd A F/\Ext [] wI w'/\Ext [] wb w'/\Fo w' F (VX b16 b11 b10 b8 b1 bs bd gen m1 m2 R.first R.seq root 0 root (opF b11 b10 b8 b1 bs) EC (ptr bp) (ptr bt) (.slice none 0 0)++opY m1 m2 bp ba bt bd m (List.replicate m 0) o1 o2)
 |1,w'=>∃l z1 z2,Own w0 w' bd A F/\Ext [] wI w'/\wb.heap.size<=w'.heap.size/\Fo w' F (VX b16 b11 b10 b8 b1 bs bd gen m1 m2 R.first R.seq root (DD [] 0 (L0.map toW)) root (opF b11 b10 b8 b1 bs) EC (ptr bp) (ptr bt) (.slice none 0 0)++opY m1 m2 bp ba bt bd m (pgU m S) z1 z2)/\KvAt w' (Old wb) l z1/\Gu l=kv1 L0/\Ec str (mi []) z2
 |2,w'=>∃l z1 z2 bj al nl cl N,Jone w0 w' bd bj A (jrK 2 R R.L) F/\Ext [] wI w'/\wb.heap.size<=bj/\wb.heap.size<=N/\bj<w'.heap.size/\StrsF N w' al nl cl R.L/\Fo w' (Fj F bj) (VX b16 b11 b10 b8 b1 bs bd gen m1 m2 R.first R.seq root (DD [] 0 (L0.map toW)) root (opF b11 b10 b8 b1 bs) (ptr bj) (ptr bp) (ptr bt) (.slice al nl cl)++opY m1 m2 bp ba bt bd m (pgU m S) z1 z2)/\KvAt w' (Mb wb bj) l z1/\Gu l=kv1 L0/\Ec str (mi []) z2
 |_,w'=>∃l z1 z2 bj al nl cl,Jone w0 w' bd bj A (jrK 2 R R.L) F/\Ext [] wI w'/\wb.heap.size<=bj/\Fo w' (Fj F bj) (VX b16 b11 b10 b8 b1 bs bd gen m1 m2 R.first R.seq root (DD (kv1 L0) (DD [] 0 (L0.map toW)) Ws.flatten) root (opF b11 b10 b8 b1 bs) (ptr bj) (ptr bp) (ptr bt) (.slice al nl cl)++opY m1 m2 bp ba bt bd m (pgU m S) z1 z2)/\KvAt w' (Mb wb bj) l z1/\Gu l=EG (kv1 L0) Ws.flatten/\Ec str (mi (He [] Ws.flatten)) z2
theorem Aig{i:Nat}(h:opI w0 wI wb b16 b11 b10 b8 b1 bs bd bp ba bt gen m1 m2 m root L0 S Ws o1 o2 A R F i w):w.heap[b16]?=some (Bl 46 (opF b11 b10 b8 b1 bs)):=by
 match i,h with
 |0,h=>exact Fo.at h.2.2.2 (k:=0) rfl
 |1,⟨_,_,_,h⟩=>exact Fo.at h.2.2.2.1 (k:=0) rfl
 |2,⟨_,_,_,_,_,_,_,_,h⟩=>exact Fo.at h.2.2.2.2.2.2.1 (k:=0) rfl
 |_+3,⟨_,_,_,_,_,_,_,h⟩=>exact Fo.at h.2.2.2.1 (k:=0) rfl
theorem Afo(hw0:w0.heap.size<=wI.heap.size)(h0:opI w0 wI wb b16 b11 b10 b8 b1 bs bd bp ba bt gen m1 m2 m root L0 S Ws o1 o2 A R F 0 wb)(_:Ext [] wI wb)(g:SG (m+362) A R V)(hR:R.size=360/\1<=R.seq/\R.seq<=4611686018427387904)(hnew:∀y∈[bs,m1,m2,ba,b11],wI.heap.size<=y)(hm1:Ec str (mv []) o1)(hm2:Ec str (mi []) o2)(td:Told 362 A (List.replicate m 0) root L0 S)(hS:∀x∈S,x<m)(hnd:S.Nodup)(hL:Rising L0)(ho:OkP L0)(hLn:L0.length<=50000)(hRL:R.L=Ws.map opB)(hW:∀W∈Ws,W.length<=1000/\∀x∈W,x.Few)(hWn:Ws.length<=400) :
  Ret prog 37 #[.slice (some ⟨b16,0,none⟩) 3 3] wb fun v w'=>∃e,v=.int .i64 e/\((e=0/\opI w0 wI wb b16 b11 b10 b8 b1 bs bd bp ba bt gen m1 m2 m root L0 S Ws o1 o2 A R F 3 w')\/(e≠0/\False)):=by
 have FY0:=h0.2.2.2;have lt:∀(k b:Nat) (o:Obj),(VX b16 b11 b10 b8 b1 bs bd gen m1 m2 R.first R.seq root 0 root (opF b11 b10 b8 b1 bs) EC (ptr bp) (ptr bt) (.slice none 0 0)++opY m1 m2 bp ba bt bd m (List.replicate m 0) o1 o2)[k]?=some (b,o)->b<wb.heap.size:=fun k b o h=>Al (Fo.at FY0 h);have lbs:=lt 5 bs _ rfl;have lm1:=lt 7 m1 _ rfl;have lm2:=lt 6 m2 _ rfl;have lba:=lt 9 ba _ rfl;have l11:=lt 1 b11 _ rfl;have lbt:=lt 10 bt _ rfl;have lbp:=lt 8 bp _ rfl;have nF:∀(k b:Nat) (o:Obj),(VX b16 b11 b10 b8 b1 bs bd gen m1 m2 R.first R.seq root 0 root (opF b11 b10 b8 b1 bs) EC (ptr bp) (ptr bt) (.slice none 0 0)++opY m1 m2 bp ba bt bd m (List.replicate m 0) o1 o2)[k]?=some (b,o)->¬F b:=fun k b o h=>FY0.off (b,o) (qaf h);have fbs:=nF 5 bs _ rfl;have fm1:=nF 7 m1 _ rfl;have fm2:=nF 6 m2 _ rfl;have fba:=nF 9 ba _ rfl;have f11:=nF 1 b11 _ rfl;have fbt:=nF 10 bt _ rfl
 have fbp:=nF 8 bp _ rfl
 have fs4:∀y∈[bs,m1,m2,ba],¬F y:=fun y hy=>by
  simp only[qaa,qaj,or_false]at hy
  rcases hy with rfl|rfl|rfl|rfl <;> assumption
 refine WH (E:=fun _ _=>False) (opF b11 b10 b8 b1 bs) wb (by simp) (I:=opI w0 wI wb b16 b11 b10 b8 b1 bs bd bp ba bt gen m1 m2 m root L0 S Ws o1 o2 A R F) h0 (fun i w' h=>Aig h) (fun v hv=>?_) (fun i f fi caps w' hi h=>?_)
 .simp only[qaa,qaj,or_false]at hv
  rcases hv with rfl|rfl|rfl <;> exact⟨_,_,_,rfl⟩
 .match i,hi,h with
  |0,hi,⟨O,hxI,hxb,FY⟩ =>
   cases hi
   have hT:Tx w' bt bd bp ba 362 A (List.replicate m 0) F [(bs,Bl CV (CK (ptr bd) EC (ptr bp) (ptr bt) gen root m1 m2 0 false)),(m1,o1),(m2,o2)]:=by
    refine⟨Fo.at FY (k:=10) rfl,⟨?_,Fo.at FY (k:=9) rfl,?_,?_,?_⟩,O.dev,fun x hx=>?_,?_,fun x hx=>?_,⟨fbt,?_⟩,fbp,fba,fun x hx=>(O.own x hx).2⟩
    .rw[qbc];exact Fo.at FY (k:=8) rfl
    .exact Gk FY 8 9 U U
    .intro s hs;rw[(qdl.1 hs).2];decide
    .rw[qbc];have:=g.lim;omega
    .simp only[qaa,qaj,or_false]at hx
     rcases hx with rfl|rfl|rfl
     .exact Fo.at FY (k:=5) U
     .exact Fo.at FY (k:=7) U
     .exact Fo.at FY (k:=6) U
    .exact UF (Gk FY 5 7 U U) (Gk FY 5 6 U U) (Gk FY 7 6 U U)
    .simp only[qaa,qaj,or_false]at hx
     rcases hx with rfl|rfl|rfl
     .exact⟨fbs,Gk FY 5 9 U U,Gk FY 5 10 U U,Gk FY 5 8 U U⟩
     .exact⟨fm1,Gk FY 7 9 U U,Gk FY 7 10 U U,Gk FY 7 8 U U⟩
     .exact⟨fm2,Gk FY 6 9 U U,Gk FY 6 10 U U,Gk FY 6 8 U U⟩
    .exact Gk FY 10 9 U U
   refine⟨by kernel_rfl,(Ade hT hm1 hm2 td hS hnd hL ho g.good.few hLn).mono fun v w'' ⟨hv,l,z1,z2,H,K,hk,hM⟩=>⟨0,hv,.inl ⟨rfl,l,z1,z2,?_,?_,?_,?_,?_,hk,hM⟩⟩⟩
   .exact O.over H.ext fs4 fun y hy=>qav hw0 (hnew y (by simp only[qaa,qaj,or_false]at hy |-;rcases hy with h|h|h|h <;> simp[h]))
   .exact hxI.then H.ext fun y hy => .inr (hnew y (by simp only[qaa,qaj,or_false]at hy |-;rcases hy with h|h|h|h <;> simp[h]))
   .exact qav hxb.size H.ext.size
   .refine SD FY H.ext U fun y hy=>?_;simp only[qb8,qa7,qaa,qaj,or_false]at hy
    rcases hy with rfl|rfl|rfl|rfl|rfl|rfl|rfl|rfl|rfl|rfl|rfl
    .exact .inr ⟨qaf (i:=0) rfl,CW FY (k:=0) U [5,7,6,9] rfl⟩
    .exact .inr ⟨qaf (i:=1) rfl,CW FY (k:=1) U [5,7,6,9] rfl⟩
    .exact .inr ⟨qaf (i:=2) rfl,CW FY (k:=2) U [5,7,6,9] rfl⟩
    .exact .inr ⟨qaf (i:=3) rfl,CW FY (k:=3) U [5,7,6,9] rfl⟩
    .exact .inr ⟨qaf (i:=4) rfl,CW FY (k:=4) U [5,7,6,9] rfl⟩
    .exact .inl (H.get at0)
    .exact .inl (H.get at2)
    .exact .inl (H.get at1)
    .exact .inr ⟨qaf (i:=8) rfl,CW FY (k:=8) U [5,7,6,9] rfl⟩
    .exact .inl (H.get at3)
    .exact .inr ⟨qaf (i:=10) rfl,CW FY (k:=10) U [5,7,6,9] rfl⟩
   .exact⟨K.m,(fun q hq=>⟨⟨(K.ok q hq).1.1,(K.ok q hq).1.2.imp id fun h5 h6=>h5 (qas h6 hxb.size)⟩,(K.ok q hq).2⟩),K.few⟩
  |1,hi,⟨l,z1,z2,O,hxI,hsz,FY,K,hk,hM⟩ =>
   cases hi;refine⟨by kernel_rfl,(Adf O ⟨qav hw0 (hnew bs (by simp)),qav hw0 (hnew b11 (by simp))⟩ g ⟨hR.1,rfl,rfl,hR.2⟩ FY).mono fun v w'' ⟨hv,bj,al,nl,cl,hbj,J,H,SF⟩=>⟨0,hv,.inl ⟨rfl,l,z1,z2,bj,al,nl,cl,w'.heap.size,J,?_,qav hsz hbj,hsz,Al J.jr,SF,fo_fj (SD FY H.ext rfl fun y hy=>?_) (fun y hy=>?_),?_,hk,hM⟩⟩⟩
   .exact hxI.then H.ext fun y hy => .inr (hnew y (by simp only[qaa,qaj,or_false]at hy |-;rcases hy with h|h <;> simp[h]))
   .simp only[qb8,qa7,qaa,qaj,or_false]at hy
    rcases hy with rfl|rfl|rfl|rfl|rfl|rfl|rfl|rfl|rfl|rfl|rfl
    .exact .inr ⟨qaf (i:=0) rfl,CW FY (k:=0) U [5,1] rfl⟩
    .exact .inl (H.get at1)
    .exact .inr ⟨qaf (i:=2) rfl,CW FY (k:=2) U [5,1] rfl⟩
    .exact .inr ⟨qaf (i:=3) rfl,CW FY (k:=3) U [5,1] rfl⟩
    .exact .inr ⟨qaf (i:=4) rfl,CW FY (k:=4) U [5,1] rfl⟩
    .exact .inl (H.get at0)
    .exact .inr ⟨qaf (i:=6) rfl,CW FY (k:=6) U [5,1] rfl⟩
    .exact .inr ⟨qaf (i:=7) rfl,CW FY (k:=7) U [5,1] rfl⟩
    .exact .inr ⟨qaf (i:=8) rfl,CW FY (k:=8) U [5,1] rfl⟩
    .exact .inr ⟨qaf (i:=9) rfl,CW FY (k:=9) U [5,1] rfl⟩
    .exact .inr ⟨qaf (i:=10) rfl,CW FY (k:=10) U [5,1] rfl⟩
   .exact Nat.ne_of_lt (qas (fo_lt FY (by rfl) y hy) hbj)
   .refine⟨K.m,(fun q hq=>?_),K.few⟩;have h5:=(K.ok q hq).1;refine⟨⟨Rdx.read h5 H.ext fun y hy=>?_,?_⟩,(K.ok q hq).2⟩
    .simp only[qaa,qaj,or_false]at hy
     rcases hy with rfl|rfl
     .exact lbs
     .exact l11
    .rcases Rd.lt8 h5.1 with h6|h6
     .exact .inl h6
     .exact h5.2.imp id fun h7 h8=>h8.elim h7 fun h9=>by omega
  |2,hi,⟨l,z1,z2,bj,al,nl,cl,N,J,hxI,hbj,hN,hbw,SF,FY,K,hk,hM⟩ =>
   cases hi
   have hkW:∀x∈L0.map toW,x.Few:=fun x hx=>by
    obtain⟨y,hy,rfl⟩:=qak.1 hx;exact⟨(ho y hy).2.1,(ho y hy).2.2⟩
   have hn0:=Hd (m:=0) (kv:=[]) (n:=0) (L:=L0.map toW) (fun q hq=>by cases hq) hkW (by decide) (by decide);rw[qan,Int.zero_add]at hn0
   have hm3:∀y∈[bs,m1,m2],y<wb.heap.size:=fun y hy=>by
    simp only[qaa,qaj,or_false]at hy
    rcases hy with rfl|rfl|rfl <;> assumption
   have hg3:∀y∈[bs,m1,m2],wI.heap.size<=y:=fun y hy=>hnew y (by simp only[qaa,qaj,or_false]at hy |-;rcases hy with h|h|h <;> simp[h])
   have hno:∀y∈[bs,m1,m2],¬Fj F bj y:=fun y hy h5=>by
    have h6:=hm3 y hy
    rcases h5 with h5|h5
    .exact fs4 y (by simp only[qaa,qaj,or_false]at hy |-;rcases hy with h|h|h <;> simp[h]) h5
    .omega
   refine⟨by kernel_rfl,(Adg (bs:=bs) (m1:=m1) (m2:=m2) (gen:=gen) (vd:=ptr bd) (vj:=ptr bj) (vp:=ptr bp) (vt:=ptr bt) (root:=root) (n:=DD [] 0 (L0.map toW)) (N:=N) (T:=L0.length) (Fo.at FY (k:=1) rfl) (Fo.at FY (k:=2) rfl) (by rw[hRL]at SF;exact SF) (fun y hy=>qas (hm3 y hy) hN) ?_ ?_ (Ctx.startL (L:=[(bs,Bl CV (CK (ptr bd) (ptr bj) (ptr bp) (ptr bt) gen root m1 m2 (DD [] 0 (L0.map toW)) false)),(m1,z1),(m2,z2)]) (fun y hy=>?_) ?_) K hM (fun y hy => .inl (hm3 y hy)) (fun y hy=>hy.elim (fun h=>qas h (by omega)) fun h=>by omega) hW hWn).mono fun v w'' ⟨hv,l',z1',z2',D⟩=>⟨0,hv,.inl ⟨rfl,l',z1',z2',bj,al,nl,cl,J.over D.H.ext hno (fun y hy=>qav hw0 (hg3 y hy)),hxI.then D.H.ext (fun y hy => .inr (hg3 y hy)),hbj,SD FY D.H.ext rfl (fun y hy=>?_),D.K,by rw[D.k,hk],D.m⟩⟩⟩
   .exact CW FY (k:=2) U [5,7,6] U
   .exact CW FY (k:=1) U [5,7,6] U
   .simp only[qaa,qaj,or_false]at hy
    rcases hy with rfl|rfl|rfl
    .exact Fo.at FY (k:=5) U
    .exact Fo.at FY (k:=7) U
    .exact Fo.at FY (k:=6) U
   .exact UF (Gk FY 5 7 U U) (Gk FY 5 6 U U) (Gk FY 7 6 U U)
   .have Hb:=D.H;rw[hk]at Hb;simp only[qb8,qa7,qaa,qaj,or_false]at hy
    rcases hy with rfl|rfl|rfl|rfl|rfl|rfl|rfl|rfl|rfl|rfl|rfl
    .exact .inr ⟨qaf (i:=0) rfl,CW FY (k:=0) U [5,7,6] rfl⟩
    .exact .inr ⟨qaf (i:=1) rfl,CW FY (k:=1) U [5,7,6] rfl⟩
    .exact .inr ⟨qaf (i:=2) rfl,CW FY (k:=2) U [5,7,6] rfl⟩
    .exact .inr ⟨qaf (i:=3) rfl,CW FY (k:=3) U [5,7,6] rfl⟩
    .exact .inr ⟨qaf (i:=4) rfl,CW FY (k:=4) U [5,7,6] rfl⟩
    .exact .inl (Hb.get at0)
    .exact .inl (Hb.get at2)
    .exact .inl (Hb.get at1)
    .exact .inr ⟨qaf (i:=8) rfl,CW FY (k:=8) U [5,7,6] rfl⟩
    .exact .inr ⟨qaf (i:=9) rfl,CW FY (k:=9) U [5,7,6] rfl⟩
    .exact .inr ⟨qaf (i:=10) rfl,CW FY (k:=10) U [5,7,6] rfl⟩
theorem KvAt.weak{M M':Mut}{l:List (Byt × Sv)}{o:Obj}(h:KvAt w M l o)(hM:∀x,M' x->M x):KvAt w M' l o:=⟨h.m,(fun q hq=>⟨⟨(h.ok q hq).1.1,(h.ok q hq).1.2.imp id fun h5 h6=>h5 (hM _ h6)⟩,(h.ok q hq).2⟩),h.few⟩
theorem Adh(O:Own w0 w bd A F)(g:SG (m+362) A R V)(hmay:Fs A=0)(hE:DT A=0)(hLo:Dj A=tpB root R.first R.seq)(hG:Gc A=gen)(hR:R.size=360/\1<=R.seq/\R.seq<=4611686018427387904)(td:Told 362 A (List.replicate m 0) root L0 S)(hS:∀x∈S,x<m)(hnd:S.Nodup)(hL:Rising L0)(ho:OkP L0)(hRL:R.L=Ws.map opB)(hW:∀W∈Ws,W.length<=1000/\∀x∈W,x.Few)(hm:1<=m:=by decide)(hroot: -1<=root/\root<=4294967294:=by decide)(hLn:L0.length<=50000:=by decide)(hWn:Ws.length<=400:=by decide):
  Ret prog 19 #[ptr bd] w fun v w'=>∃p,v=.tuple #[ptr p.bs,.int .i64 0]/\p.bd=bd/\Sok w0 w' p A R ⟨gen,root,DD (kv1 L0) (DD [] 0 (L0.map toW)) Ws.flatten,EG (kv1 L0) Ws.flatten,He [] Ws.flatten,pgU m S,L0.length+Ws.flatten.length,V⟩ F/\Ext [] w w':=by
 obtain⟨wI,rfl⟩:=qD w;have hN:=g.lim;have hlen:=g.len;have hok:=g.ok;have H:=Ctx.start wI []
 have hrt:tpR (tpB root R.first R.seq)=tpC root R.first R.seq:=Xh hroot (by have:=hok.a;omega)
 have htl:=EI root R.first R.seq
 refine Ax (fn:=f19) func19 U [ptr bd] U (Ad (BN _ (.pointer _) U U H ?_));rintro b1 w - H;refine Bb U (Ac U (qA (Aq (Ad (AG Cy U H at0 U (Ah qB (Lt (O.call H.ext).dev (by omega)) U ?_))))));rintro v w ⟨rfl,rfl⟩;rw[hmay];refine Ac U (qA (Ad (Ae U (AN U U (qA (Ar _ U ?_ ?_))))))
 .intro h1;replace h1:=Bh h1;exact absurd U h1
 .intro h1;replace h1:=Bi h1;refine Ap (Aa (Ad (AG Cy U H at0 U (Ah qB (OM g.good.few (O.call H.ext).dev) U ?_))));rw[hG,hE,hLo];rintro v w ⟨a19,c19,rfl,R19,h19,-,hx19⟩;replace H:=H.call hx19;refine AL U (Ag U U (Ag U U (Ag U U (Ac U (Ai U (Ac U (qA (Aq (Ad ?_)))))))));refine Ae U (AN U U (qA (Ar _ U ?_ ?_)))
  .intro h2;replace h2:=Bh h2;exact absurd U h2
  .intro h2;replace h2:=Bi h2;refine Ap (Aa (Ad (Aj U (Ah qB (Ud a19 c19 (tpB root R.first R.seq) _ R19 h19) U ?_))));rw[hrt,qai htl];rintro v w ⟨rfl,hx28⟩;replace H:=H.call hx28;refine AL U (Ag U U (Ag U U (Bf Qj H ?_)));rintro b8 w - H;refine Bc Li U U U (by simp[AX]) H at0 U ?_;rintro w H;refine Am U (qA (Aq (Ad (A4 U (Cc U (qA (Ar _ U ?_ ?_)))))))
   .intro h3;replace h3:=Cs h3;exact absurd h3 (by decide)
   .intro h3;replace h3:=Cu h3;refine Ap (Aa (Ad (AG Cy U H at1 U (Ae U (Ah qB (TY _ (O.call H.ext).dev hlen ⟨hm,by omega⟩ gen) U ?_)))));rintro v w ⟨bs,m1,m2,o1,o2,bp,ba,bt,rfl,hm1,hm2,HE⟩;replace H:=H.callEnt HE.ext (fun x hx=>⟨HE.blk x hx,(HE.own x hx).resolve_left (by simp)⟩) HE.nd;refine AL U (Ag U U (Ag U U (Bf Aal H ?_)));rintro b10 w - H;refine Bk (.pointer _) Aah U U U H at0 (by decide) ?_;rintro w H;refine Ac U (qA (Aq (Ad (Ae U (AN U U (qA (Ar _ U ?_ ?_)))))))
    .intro h4;replace h4:=Bh h4;exact absurd U h4
    .intro h4;replace h4:=Bi h4;refine Ap (Aa (Ad (AG HJ U H at0 U (Af W1 U (AG DE U H at1 U (AD U (Af RP U (Bk (.int _ _) H1 U U U H at3 (by(simp;done)) ?_))))))));rintro w H;refine qA (Ad (Bf zc_69 H ?_));rintro b11 w - H;refine qA (Ad (AG HJ U H at1 U (SC (ptr bs) U U ?_)));refine Cl [.pointer _,.pointer _,.pointer _,.pointer _] U (Cl [.pointer _,.pointer _] U (BM (opF b11 b10 b8 b1 bs) Om W4 Aam H ?_));rintro b51 w - H;have hall:=(fun(k:Nat) (b:Nat) (o:Obj) (hy)=>(H.own (b,o) (qaf (i:=k) hy)).resolve_left (by simp));have hnw:∀y∈[bs,m1,m2,ba,b11],wI.heap.size<=y:=(by simp only[qaa,qaj,or_false,forall_eq_or_imp,forall_eq];exact⟨hall 5 bs _ rfl,hall 7 m1 _ rfl,hall 6 m2 _ rfl,hall 9 ba _ rfl,hall 1 b11 _ rfl⟩)
     have hnp:wI.heap.size<=bp/\wI.heap.size<=bt:=⟨hall 8 bp _ rfl,hall 10 bt _ rfl⟩;have hFw:=(O.call H.ext);have hlw:=(fun(k:Nat) (b:Nat) (o:Obj) (hy)=>Al (H.blk (b,o) (qaf (i:=k) hy)));have hlow:=And.intro (hlw 5 bs _ rfl) (And.intro (hlw 7 m1 _ rfl) (And.intro (hlw 6 m2 _ rfl) (And.intro (hlw 8 bp _ rfl) (And.intro (hlw 9 ba _ rfl) (hlw 10 bt _ rfl)))));clear hlw;refine Ah qB (Afo (wI:=wI) (b16:=b51) (b11:=b11) (b10:=b10) (b8:=b8) (b1:=b1) (bs:=bs) (bp:=bp) (ba:=ba) (bt:=bt) (gen:=gen) (m1:=m1) (m2:=m2) (m:=m) (root:=root) (L0:=L0) (S:=S) (Ws:=Ws) (o1:=o1) (o2:=o2) O.ext.size ⟨O.call H.ext,H.ext,Ext.refl _ _,Acy H (fun x h=>(O.own x h).2) (List.Sublist.refl _)⟩ H.ext g hR hnw hm1 hm2 td hS hnd hL ho hLn hRL hW hWn) U ?_;rintro v w ⟨e,rfl,he⟩;obtain⟨rfl,l,z1,z2,bj,al,nl,cl,J,hxI,hbj,FY,K,hk,hM⟩:=he.resolve_right (fun h=>h.2);clear he;clear hall;clear H
     refine Ac U (qA (Aq (Ad (Ae U (AN U U (qA (Ar _ U ?_ ?_)))))))
     .intro h5;replace h5:=Bh h5;exact absurd U h5
     .intro h5;replace h5:=Bi h5;refine Ap (Aa (Ad (Bq HJ U ((by rw[Au (Fo.at FY (k:=2) rfl)];rfl)) ?_)));refine Bb U (Ac U (qA (Aw (BA (v1:=(.pointer _)) (v2:=(.int _ _)) U U U U ?_))));have hpl:(pgU m S).length=m:=by rw[JG,qbc]
      have hge:∀q∈[bs,m1,m2,bp,ba,bt],wI.heap.size<=q:=fun q hq=>by
       simp only[qaa,qaj,or_false]at hq
       rcases hq with h|h|h|h|h|h <;> rw[h]
       .exact hnw _ (by simp)
       .exact hnw _ (by simp)
       .exact hnw _ (by simp)
       .exact hnp.1
       .exact hnw _ (by simp)
       .exact hnp.2
      have hkW:∀x∈L0.map toW,x.Few:=fun x hx=>by
       obtain⟨y,hy,rfl⟩:=qak.1 hx;exact⟨(ho y hy).2.1,(ho y hy).2.2⟩
      have hfW:∀x∈Ws.flatten,x.Few:=fun x hx=>by
       obtain⟨W,hW1,hW2⟩:=List.mem_flatten.1 hx;exact(hW W hW1).2 x hW2
      have hfl:Ws.flatten.length<=400000:=by
       have h6:=QT (L:=Ws) (m:=1000) fun W hW1=>(hW W hW1).1;have h7:1000*Ws.length<=1000*400:=qb0 _ hWn;omega
      have hk1:∀q∈kv1 L0,q.1.length<=32/\q.2.length<=128:=fun q hq=>by
       have h6:=(YZ L0 hL).perm.mem_iff.1 hq;exact(ho q h6).2
      have hn0:=Hd (m:=0) (kv:=[]) (n:=0) (L:=L0.map toW) (fun q hq=>by cases hq) hkW (by decide) (by decide);rw[qan,Int.zero_add]at hn0;have hn1:=Hd (m:=L0.length) (n:=DD [] 0 (L0.map toW)) hk1 hfW (by omega) (by omega);have htt:=MG (W:=Ws.flatten) (t:=[]) (T:=0) (fun q hq=>by cases hq) (by decide);refine⟨⟨bd,bs,bj,bp,ba,bt,m1,m2⟩,rfl,rfl,⟨J,by rw[hlen];exact g,⟨l,z1,z2,?_,K.weak fun y hy=>?_,hk,hM⟩,fun q hq=>qav O.ext.size (hge q hq),hn1,(fun q hq=>by have:=htt q hq;dsimp only;omega),by dsimp only;omega⟩,hxI⟩
      .refine Xg FY (fun y hy=>?_) ?_
       .simp only[Sp.blk,qaa,qaj,or_false,hpl]at hy
        rcases hy with rfl|rfl|rfl|rfl|rfl|rfl
        .exact qaf (i:=5) U
        .exact qaf (i:=7) U
        .exact qaf (i:=6) U
        .exact qaf (i:=8) U
        .exact qaf (i:=9) U
        .exact qaf (i:=10) U
       .have hp6:=FY.nd.sublist (List.drop_sublist 5 _);simp only[Sp.blk,hpl];exact(List.Perm.pairwise_iff (fun h=>Ne.symm h) ((List.Perm.swap _ _ _).cons _)).1 hp6
      .rcases hy with(hy|hy)|hy
       .exact .inl (hFw.own y hy).2
       .exact .inr hy
       .simp only[Sp.own,qaa,qaj,or_false]at hy;left
        rcases hy with h|h|h|h|h|h <;> rw[h]
        .exact hlow.1
        .exact hlow.2.1
        .exact hlow.2.2.1
        .exact hlow.2.2.2.1
        .exact hlow.2.2.2.2.1
        .exact hlow.2.2.2.2.2
end
theorem Za(a a2:Option Addr)(c c2:Nat)(x y:Byt)(w:World)(Rx:Rd w a 1 B8 x)(Ry:Rd w a2 1 B8 y)(hx:x.length<=1000000000)(_:y.length<=1000000000) :
  Ret prog 69 #[.slice a x.length c,.slice a2 y.length c2] w fun v w'=>∃e:Int,v=.int .i64 e/\(e=0↔x=y)/\Ext [] w w':=by
 obtain⟨w0,rfl⟩:=qD w;refine Ax (fn:=f69) func69 U [.slice a x.length c,.slice a2 y.length c2] U ?_;refine Ad (Ac U (qA (Aq (Ad (Ac U (qA (AB (BE 68719476720 (α:=Nat) (fun i=>[(5,.int .i64 (i:Int))]) (fun i w'=>i<=x.length/\i<=y.length/\x.take i=y.take i/\Ext [] w0 w') (fun i=>x.length - i) 0 U ?_ ?_ ?_))))))))
 .exact⟨rfl,trivial⟩
 .exact⟨qal _,qal _,rfl,Ext.refl _ _⟩
 .rintro i j w1 ⟨hi,hi2,ht,hE⟩;have H:=Ctx.start w1 [];refine Aq (Ad (B5 (α:=Unit) 65472 (fun _=>[(15,.bool ((decide (i<x.length) && decide (i<y.length))))]) (fun _ w'=>w1=w') U ?_ ?_))
  .refine Ae U (Aj U (AP AO U (Bp U U (A4 U (AU 10 U ?_ ?_)))))
   .intro h1;replace h1:=AV h1;refine Ae U (Aj U (AP AO U (Bp U U (AR U (.bool _) U (Ab ?_)))));exact⟨rfl,(),rfl,⟨qac Value.bool (by simp_all;try omega),trivial⟩,rfl⟩
   .intro h2;replace h2:=AW h2;refine Ak U (Ak U (Ak U (Ak U (AJ U (.bool _) U (Ab ?_)))));exact⟨rfl,(),rfl,⟨qac Value.bool (by simp_all;try omega),trivial⟩,rfl⟩
  rintro - j15 w rfl;refine Ar _ U ?_ ?_
  .intro h1;simp only[qao,qaq]at h1;obtain⟨p,hp⟩:=AY (l:=x) (i:=i) (h:=h1.1);obtain⟨q,hq⟩:=AY (l:=y) (i:=i) (h:=h1.2);have hne:p≠q->¬x=y:=fun h e=>h (by rw[e]at hp;exact qbr (hp.symm.trans hq));have hEd:=hE.trans (Ext.drew [] w1);have hEdd:=hEd.trans (Ext.drew [] w1.drew);refine Ap (Aa (Aq (AB (Aq (IV (fun x=>x=_) mixed U ?_)))));refine KQ U U (Hl U (JM Rx U AO C0 U U (by rfl) ?_));refine Kr P7 U (by rintro _ rfl;exact(((Rx.ext0 hEd).one (f:=bv) hp))) ?_;refine KQ U U (Hl U (JM Ry U AO C0 U U (by rfl) ?_));refine Kr P7 U (by rintro _ rfl;exact(((Ry.ext0 hEd).one (f:=bv) hq))) ?_;refine q_lss U U U (Kf ?_);rintro _ rfl;replace H:=H.drew;refine Ar _ U ?_ ?_
   .intro h2;replace h2:=AV h2;refine Ad (Ac U (qA (Aw (An (AK (An (An (AK (An (AE (v:=(.int _ _)) U U U ?_))))))))));exact⟨-1,rfl,⟨fun h=>by omega,fun h=>absurd h (hne fun e=>by rw[e]at h2;omega)⟩,hEd⟩
   .intro h2;replace h2:=AW h2;refine Ap (Aa (IV (fun x=>x=_) mixed U ?_));refine KQ U U (Hl U (JM Rx U AO C0 U U (by rfl) ?_));refine Kr P7 U (by rintro _ rfl;exact(((Rx.ext0 hEd).one (f:=bv) hp))) ?_;refine KQ U U (Hl U (JM Ry U AO C0 U U (by rfl) ?_));refine Kr P7 U (by rintro _ rfl;exact(((Ry.ext0 hEd).one (f:=bv) hq))) ?_;refine q_gtr U U U (Kf ?_);rintro _ rfl;replace H:=H.drew;refine Ar _ U ?_ ?_
    .intro h3;replace h3:=AV h3;refine Ad (Ac U (qA (Aw (AK (An (An (AK (An (AE (v:=(.int _ _)) U U U ?_)))))))));exact⟨1,rfl,⟨fun h=>by omega,fun h=>absurd h (hne fun e=>by rw[e]at h3;omega)⟩,hEdd⟩
    .intro h3;replace h3:=AW h3;refine Ap (AH (Aa (A5 (Ae U (A8 U U ?_)))));refine Ac U (qA ?_);have he:p=q:=UInt8.toNat_inj.1 (by omega);exact⟨i+1,rfl,⟨rfl,trivial⟩,⟨by omega,by omega,by rw[Bt hp,Bt hq,ht,he],hEdd⟩,by omega⟩
  .intro h1;simp only[Bool.and_eq_false_iff,qc9]at h1;refine B9 (A6 (A6 (Bd (Aa (Aq (Ad (Aj U (AP AO U (Aj U (AP AO U (Bp U U (qA (Ar _ U ?_ ?_)))))))))))))
   .intro h2;replace h2:=AV h2;refine Ad (Ac U (qA (Aw (An (AE (v:=(.int _ _)) U U U ?_)))));exact⟨-1,rfl,⟨fun h=>by omega,fun h=>by rw[h]at h2;omega⟩,hE⟩
   .intro h2;replace h2:=AW h2;refine Ap (Aa (Aq (Ad (Aj U (AP AO U (Aj U (AP AO U (BP U U (qA (Ar _ U ?_ ?_))))))))))
    .intro h3;replace h3:=AV h3;refine Ad (Ac U (qA (Aw (An (AE (v:=(.int _ _)) U U U ?_)))));exact⟨1,rfl,⟨fun h=>by omega,fun h=>by rw[h]at h3;omega⟩,hE⟩
    .intro h3;replace h3:=AW h3;refine Ap (Aa (Ad (Ac U (qA (Aw (AE (v:=(.int _ _)) U U U ?_))))));refine⟨0,rfl,⟨fun _=>?_,fun _=>rfl⟩,hE⟩;rw[qa3 (by omega),qa3 (by omega)]at ht;exact ht
theorem UG(a a2:Option Addr)(c c2:Nat)(x y:Byt)(w:World)(Rx:Rd w a 1 B8 x)(Ry:Rd w a2 1 B8 y)(hx:x.length<=1000000000:=by omega)(hy:y.length<=1000000000:=by omega):
  Ret prog 68 #[.slice a x.length c,.slice a2 y.length c2] w fun v w'=>v=.bool (decide (x=y))/\Ext [] w w':=by
 obtain⟨w0,rfl⟩:=qD w;refine Ax (fn:=f68) func68 U [.slice a x.length c,.slice a2 y.length c2] U (Ad (Am U (qA (Ad (Aj U (Aj U (Ah qB (Za a a2 c c2 x y _ Rx Ry hx hy) U ?_)))))));rintro v w ⟨e,rfl,he,hx7⟩;refine B6 U U (Am U (qA (Aw (AE (v:=(.bool _)) U U U ?_))));exact⟨qac Value.bool (decide_eq_decide.2 he),hx7⟩
theorem Adi{w:World}{M M2:Mut}{a b:Option Addr}{n c m d:Nat}{L K:List Pr}(PL:Prs w M a n c L)(PK:Prs w M2 b m d K)(hK:∀p∈K,p.1.length<=1000/\p.2.length<=1000)(hn:n<=100000000:=by decide)(_:m<=100000000:=by decide)(hL:∀p∈L,p.1.length<=1000/\p.2.length<=1000:=by decide):
  Ret prog 21 #[.slice a n c,.slice b m d] w fun v w'=>v=.bool (decide (L=K))/\Ext [] w w':=by
 obtain⟨w0,rfl⟩:=qD w;obtain⟨ps,Rp,-,hl,hp⟩:=PL.ex;obtain⟨qs,Rq,-,hk,hq⟩:=PK.ex;have hnL:=PL.num;have hmK:=PK.num;have hpn:ps.length=n:=by rw[hnL,<-hl,qan]
 have hqm:qs.length=m:=by rw[hmK,<-hk,qan]
 refine Ax (fn:=f21) func21 U [.slice a n c,.slice b m d] U (Ad (Am U (qA (Aq (Ad (Aj U (AP EY U (Aj U (AP EY U (AN U U ?_))))))))));refine qA (Ar _ U ?_ ?_)
 .intro hA;replace hA:=Bh hA;refine Ad (Am U (qA (Aw (An (AE (v:=(.bool _)) U U U ?_)))));exact⟨qac Value.bool (qag fun h=>hA (by rw[h]at hnL;omega)).symm,.refl _ _⟩
 .intro hA;replace hA:=Bi hA;have hnm:n=m:=by omega
  refine Ap (Aa (Aq (Ad (Ac U (qA (AB (BE 8796093020208 (α:=Nat) (fun i=>[(5,.int .i64 (i:Int))]) (fun i w'=>i<=n/\Ext [] w0 w'/\L.take i=K.take i) (fun i=>n - i) 0 U ?_ ?_ ?_)))))))
  .exact⟨rfl,trivial⟩
  .exact⟨qal _,.refl _ _,rfl⟩
  .rintro i j w ⟨hi,hE,he⟩;have H:=(Ctx.start w []);refine Aq (Ad (Ae U (Aj U (AP EY U (Bp U U (qA (Ar _ U ?_ ?_)))))))
   .intro hB;replace hB:=AV hB;obtain⟨x,hx1⟩:=AY (l:=ps) (i:=i);obtain⟨y,hy1⟩:=AY (l:=qs) (i:=i);have hxo:=hp x (qaf hx1);have hyo:=hq y (qaf hy1);have hxL:L[i]?=some (prI x.it):=by rw[<-hl,qax,hx1];rfl
    have hyK:K[i]?=some (prI y.it):=by rw[<-hk,qax,hy1];rfl
    have hxf:x.it.key.length<=1000/\x.it.val.length<=1000:=hL _ (qaf hxL);have hyf:y.it.key.length<=1000/\y.it.val.length<=1000:=hK _ (qaf hyK);have hne:prI x.it≠prI y.it->¬L=K:=fun h e=>h (by rw[e]at hxL;exact qbr (hxL.symm.trans hyK));refine Ap (Aa (Aq (AB (BQ [([0,1,2,3,4,5,6,7,8,9],10),([11,12,13,14,15,16,17,18,19,20,21,22],23),([24],25)] (fun z=>Ext [] w0 z) [] mixed (hE.trans (Ext.drew [] w)) ?_))));refine A7 U U (Ca U (BI U (DH Rp EY Gv U U ?_)));refine AF Nu U (BO BF U (fun _ hx=>(Rp.ext0 hx).fld hx1 rfl (j:=0) rfl) ?_);refine Ca U (BI U (DH Rq EY Gv U U ?_));refine AF Nu U (BO BF U (fun _ hx=>(Rq.ext0 hx).fld hy1 rfl (j:=0) rfl) ?_);refine Bj ?_;replace H:=H.drew
    refine Ah qB (UG _ _ _ _ x.it.key y.it.key _ (hxo.k.1.ext0 (hE.trans H.ext)) (hyo.k.1.ext0 (hE.trans H.ext))) U ?_;rintro v w ⟨rfl,hx27⟩;replace H:=H.call hx27;refine Ab (Be (hE.trans H.ext) (A7 U U ?_));refine Afu U U (Wo U U (SY 29 U ?_ ?_))
    .intro hC;replace hC:=Cs hC;have hC':¬x.it.key=y.it.key:=by simpa using hC
     refine EM U (EM U (EM U (EM U (EM U (EM U (EM U (EM U (EM U (EM U ?_)))))))));refine Bj (Ak U (Ab (Be (hE.trans H.ext) (A7 U U ?_))));refine EM U (Bj (AR U (.bool _) U (Ab (Be (hE.trans H.ext) (B2 (Eg U (Ad (Am U (qA (Aw (AK (An (An (AK (An (AE (v:=(.bool _)) U U U ?_))))))))))))))));exact⟨qac Value.bool (qag (hne fun e=>hC' (qac Prod.fst e))).symm,hE.trans H.ext⟩
    .intro hC;replace hC:=Cu hC;have hC':x.it.key=y.it.key:=by simpa using hC
     refine Ca U (BI U (DH Rp EY Gv U U ?_));refine AF RM U (BO BF U (fun _ hx=>(Rp.ext0 hx).fld hx1 rfl (j:=1) rfl) ?_);refine Ca U (BI U (DH Rq EY Gv U U ?_));refine AF RM U (BO BF U (fun _ hx=>(Rq.ext0 hx).fld hy1 rfl (j:=1) rfl) ?_);refine Bj (Ah qB (UG _ _ _ _ x.it.val y.it.val _ (hxo.v.1.ext0 (hE.trans H.ext)) (hyo.v.1.ext0 (hE.trans H.ext))) U ?_);rintro v w ⟨rfl,hx40⟩;replace H:=H.call hx40;refine Ab (Be (hE.trans H.ext) (A7 U U ?_));refine Afu U U (Bj (AJ U (.bool _) U (Ab (Be (hE.trans H.ext) (B2 (Ar _ U ?_ ?_))))))
     .intro hD;replace hD:=Cs hD;have hD':¬x.it.val=y.it.val:=by simpa using hD
      refine Ad (Am U (qA (Aw (AK (An (An (AK (An (AE (v:=(.bool _)) U U U ?_)))))))));exact⟨qac Value.bool (qag (hne fun e=>hD' (qac Prod.snd e))).symm,hE.trans H.ext⟩
     .intro hD;replace hD:=Cu hD;have hD':x.it.val=y.it.val:=by simpa using hD
      refine Ap (AH (Aa (A5 (Ae U (A8 U U ?_)))));refine Ac U (qA ?_);exact⟨i+1,rfl,⟨rfl,trivial⟩,⟨by omega,hE.trans H.ext,by rw[Bt hxL,Bt hyK,he,show prI x.it=prI y.it by unfold prI;rw[hC',hD']]⟩,by omega⟩
   .intro hB;replace hB:=AW hB;refine B9 (A6 (A6 (Bd (Aa (Ad (Am U (qA (Aw (AE (v:=(.bool _)) U U U ?_)))))))));rw[qa3 (by omega),qa3 (by omega)]at he;exact⟨qac Value.bool (qai he).symm,hE⟩
end Go.Proofs.YtcpgbcabmcbclaaGreatDoor
