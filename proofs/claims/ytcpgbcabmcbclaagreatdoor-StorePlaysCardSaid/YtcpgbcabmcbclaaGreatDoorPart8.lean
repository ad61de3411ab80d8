/- Part 8 of the proof. -/
import Derived.Test.YtcpgbcabmcbclaaGreatDoorPart7
import Derived.Sort.OwnSortedInts
set_option maxRecDepth 20000
set_option maxHeartbeats 8000000
namespace Go.Proofs.YtcpgbcabmcbclaaGreatDoor
open Go.GV Go.Proofs.Tryz
attribute [local irreducible] AA W Wq Wt
theorem Grown.keep{M M':Mut}{w w':World}{b:Nat}{o:Obj}(t:Grown M M' w w')(h:w.heap[b]?=some o)(hn:¬M b):w'.heap[b]?=some o:=by
 obtain⟨⟨S,hS,hx⟩,-⟩:=t;rw[hx.block b (Al h) fun h=>hn (hS _ h)];exact h
abbrev Z0:Mut:=fun _=>False
theorem MZ0{M:Mut}:∀x,MZ M Z0 x->M x:=fun _ h=>h.elim id False.elim
theorem Ab5{fr:Nat}(hfr:fr<=5000){w:World}{bt bd bp ba:Nat}{A:Dev}{P:List Nat}{F:Mut}(T:Tx w bt bd bp ba fr A P F [])(root:Int)(ka va:Option Addr)(kc vc kn vn:Nat)(key val:Byt)(Rk:Rdx w (TM F ba bt bp []) ka key)(Rv:Rdx w (TM F ba bt bp []) va val)(hkn:key.length=kn)(hvn:val.length=vn)(hkc:kn<=kc)(hvc:vn<=vc){mx:Nat}(hfew:Few A mx)(hmx:mx<=800000000)(hok:(JR fr A P root key val).1≠99)(hr1: -9223372036854775808<=root:=by omega)(hr2:root<=9223372036854775807:=by omega)(hkl:kn<=100000:=by omega):
  Ret prog 120 #[ptr bt,.int .i64 root,.slice ka kn kc,.slice va vn vc] w fun v w'=>∃F',v=.tuple #[.int .i64 (JR fr A P root key val).2.1,.int .i64 (JR fr A P root key val).1]/\Tx w' bt bd bp ba fr (JR fr A P root key val).2.2.1 (JR fr A P root key val).2.2.2 F' []/\Grown (TM F ba bt bp []) (TM F' ba bt bp []) w w':=by
 subst hkn hvn;obtain⟨w0,rfl⟩:=qD w;obtain⟨pt,hpt⟩:=qD (JR fr A P root key val);rw[<-hpt]at hok |-;unfold JR at hpt;have H:=Ctx.start w0 [];refine A8 (fn:=f120) func120 U [.pointer (some ⟨bt,0,none⟩),.int .i64 root,.slice ka key.length kc,.slice va val.length vc] U ?_;refine Ad (Cu _ (.slice _ _ _) U U H ?_);rintro b6 w - H;refine Cu _ (.slice _ _ _) U U H ?_;rintro b7 w - H;refine Ac U (Ac U (qA (Ar (Ad (An U (Ae U (Aj qB (Q8 (T.call H.ext) root) U ?_)))))));rintro v w2 ⟨rfl,rfl⟩;refine Ac U (qA (Ad (Ae U (Be U U (qA (Av _ U ?_ ?_))))))
 .intro hA;replace hA:=Bv hA;rw[if_pos hA]at hpt;have he:Ij P.length root=1:=by unfold Ij at hA |-;split <;> simp_all
  rw[he];refine Ad (Ae U (Ae U (Ac U (Ac U (qA (A6 (Ao (Cs (v1:=(.int _ _)) (v2:=(.int _ _)) U U U U ?_))))))));exact⟨F,by rw[hpt],by rw[hpt];exact T.call H.ext,.call0 H.ext⟩
 .intro hA;replace hA:=Bw hA;rw[if_neg (by simpa using hA)]at hpt;have hm0:Ij P.length root=0:=by simpa using hA
  have hroot : -1<=root/\root<=4294967296:=by
   have hpl:=T.pg.len;unfold Ij at hm0
   split at hm0
   .cases hm0
   .omega
  refine Ap (Aa (Ar (Ad (AH B1 U H at1 U (AH B1 U H at0 U (Aj qB (Pq ka va _ _ kc vc _) U ?_))))));rintro v w2 ⟨rfl,rfl⟩;refine Cl U (qA (Av _ U ?_ ?_))
  .intro hB;replace hB:=C8 hB;rw[if_neg (by rw[hB];simp)]at hpt;refine Ad (Ae U (Ac U (Ac U (qA (A6 (Ao (Cs (v1:=(.int _ _)) (v2:=(.int _ _)) U U U U ?_)))))));exact⟨F,by rw[hpt],by rw[hpt];exact T.call H.ext,.call0 H.ext⟩
  .intro hB;replace hB:=CA hB;rw[if_pos (by simpa using hB)]at hpt;have hx1:=H.ext;have h6:=H.get at1;have h7:=H.get at0;have ho6:=(H.own _ (qaj _ (qaf ..))).elim (fun h=>by cases h) id;have ho7:=(H.own _ (qaf ..)).elim (fun h=>by cases h) id;have hM0:=T.mlt;have T1:=T.call hx1;have D:DoOk 145 [ptr b6,ptr b7] (Lp key val) w (MZ (TM F ba bt bp []) Z0):=fun w' M' t hlt a n c l I hn=>Aje hlt (t.keep h6 fun h=>by have:=hM0 _ (MZ0 _ h);dsimp only at ho6;omega) (t.keep h7 fun h=>by have:=hM0 _ (MZ0 _ h);dsimp only at ho7;omega) (((Rk.call hx1).weak MZ0).turn t) (((Rv.call hx1).weak MZ0).turn t) hkc hvc I hn;have hokt:(DE fr A P root key (Lp key val)).1≠99:=fun h=>hok (by rw[hpt];exact h)
   refine Ap (Aa (Ad (An U (Ae U (AH B1 U H at1 U (CG [.pointer _,.pointer _] U (Aj qB (XG qB hfr hkl T1 root hroot.1 hroot.2 Z0 (fun x h=>h.elim) D ka kc ((Rk.call hx1).weak MZ0) hfew hmx hokt) U ?_)))))));rintro v w3 ⟨F3,rfl,T3,g3⟩;refine Ai U U (Ai U U (Ac U (Ac U (qA (A6 (Cs (v1:=(.int _ _)) (v2:=(.int _ _)) U U U U ?_))))));exact⟨F3,by rw[hpt],by rw[hpt];exact T3,(Grown.call0 hx1).trans g3⟩
theorem Ab6{fr:Nat}(hfr:fr<=5000){w:World}{bt bd bp ba:Nat}{A:Dev}{P:List Nat}{F:Mut}(T:Tx w bt bd bp ba fr A P F [])(root:Int)(ka:Option Addr)(kc kn:Nat)(key:Byt)(Rk:Rdx w (TM F ba bt bp []) ka key)(hkn:key.length=kn){mx:Nat}(hfew:Few A mx)(hmx:mx<=800000000)(hok:(Hi fr A P root key).1≠99)(hr1: -9223372036854775808<=root:=by omega)(hr2:root<=9223372036854775807:=by omega)(hkl:kn<=100000:=by omega):
  Ret prog 121 #[ptr bt,.int .i64 root,.slice ka kn kc] w fun v w'=>∃F',v=.tuple #[.int .i64 (Hi fr A P root key).2.1,.bool (Hi fr A P root key).2.2.1,.int .i64 (Hi fr A P root key).1]/\Tx w' bt bd bp ba fr (Hi fr A P root key).2.2.2.1 (Hi fr A P root key).2.2.2.2 F' []/\Grown (TM F ba bt bp []) (TM F' ba bt bp []) w w':=by
 subst hkn;obtain⟨w0,rfl⟩:=qD w;obtain⟨pt,hpt⟩:=qD (Hi fr A P root key);rw[<-hpt]at hok |-;unfold Hi at hpt;obtain⟨gt,hgt⟩:=qD (Oi A fr P.length root key);rw[<-hgt]at hpt;have H:=Ctx.start w0 [];refine A8 (fn:=f121) func121 U [.pointer (some ⟨bt,0,none⟩),.int .i64 root,.slice ka key.length kc] U ?_;refine Ad (Cu _ (.slice _ _ _) U U H ?_);rintro b5 w - H;refine Ac U (Am U (Ac U (qA (Ad (An U (Ae U (AH B1 U H at0 U ?_)))))));have hx0:=H.ext;refine Aj qB (Aby (T.call hx0) hfr root ⟨hr1,hr2⟩ ka kc _ key (Rk.call hx0).1 U hfew) U ?_;rintro v w2 ⟨va,vc,u,rfl,hx17,-,-,-⟩;rw[<-hgt];replace H:=H.call hx17
 refine AW U (Ai U U (Ai U U (Ai U U (Ak U (Am U (Ac U (qA (Ar (Ad (BG (α:=Unit) 132120576 (fun _=>[(26,.bool (decide (gt.1≠0) || decide (gt.2.isSome=false)))]) (fun _ w'=>Ctx w0 [] w' [(b5,Bl 24 [.slice ka key.length kc])]) U ?_ ?_))))))))))
 .refine Ae U (Be U U (AF U (AQ 23 U ?_ ?_)))
  .intro h1;replace h1:=Bv h1;refine Ag U (Ag U (AN U (.bool _) U (Ab ?_)));exact⟨rfl,(),rfl,⟨qab Value.bool (by(rw[qal (show gt.1≠0 from h1)]);cases gt.2 <;> rfl),trivial⟩,H⟩
  .intro h2;replace h2:=Bw h2;refine AF U (Cl U (AM U (.bool _) U (Ab ?_)));exact⟨rfl,(),rfl,⟨qab Value.bool (by(rw[qag (show ¬gt.1≠0 from fun h=>h h2)]);cases gt.2 <;> rfl),trivial⟩,H⟩
 rintro - j26 w H;refine Av _ U ?_ ?_
 .intro hA;refine Ad (Ae U (Ae U (Ac U (Am U (Ac U (qA (A6 (Ao (CX (v1:=(.int _ _)) (v2:=(.bool _)) (v3:=(.int _ _)) U U U U U ?_)))))))))
  by_cases h0:gt.1=0
  .rw[if_neg (by rw[h0];simp),if_pos (by rw[h0]at hA;simpa using hA)]at hpt;exact⟨F,by rw[hpt,h0],by rw[hpt];exact T.call H.ext,.call0 H.ext⟩
  .rw[if_pos h0]at hpt;exact⟨F,by rw[hpt],by rw[hpt];exact T.call H.ext,.call0 H.ext⟩
 .intro hA
  have hA2:gt.1=0/\¬gt.2.isSome=false:=by
   have h5:=hA;rw[qdy]at h5;exact⟨by simpa using h5.1,qcx h5.2⟩
  rw[if_neg (by rw[hA2.1];simp),if_neg hA2.2]at hpt
  have hroot : -1<=root/\root<=4294967296:=by
   have hpl:=T.pg.len;have h5:=hA2.1
   have hm:Ij P.length root=0:=by
    by_cases hq:Ij P.length root=0
    .exact hq
    .rw[hgt]at h5;unfold Oi at h5;rw[if_pos hq]at h5;cases h5
   unfold Ij at hm
   split at hm
   .cases hm
   .omega
  have hx1:=H.ext;have h5:=H.get at0;have ho5:=(H.own _ (qaf ..)).elim (fun h=>by cases h) id;have hM0:=T.mlt;have T1:=T.call hx1;have D:DoOk 149 [ptr b5] (KG key) w (MZ (TM F ba bt bp []) Z0):=fun w' M' t hlt a n c l I hn=>Ajf hlt (t.keep h5 fun h=>by have:=hM0 _ (MZ0 _ h);dsimp only at ho5;omega) (((Rk.call hx1).weak MZ0).turn t) I hn;have hokt:(DE fr A P root key (KG key)).1≠99:=fun h=>hok (by rw[hpt];exact h);refine Ap (Aa (Ad (An U (Ae U (AH B1 U H at0 U (CG [.pointer _] U (Aj qB (XG qB hfr hkl T1 root hroot.1 hroot.2 Z0 (fun x h=>h.elim) D ka kc ((Rk.call hx1).weak MZ0) hfew hmx hokt) U ?_)))))));rintro v w3 ⟨F3,rfl,T3,g3⟩;refine AW U (Ai U U (Ai U U (Ac U (Ac U (qA (Ad (Ae U (Ae U (BA U U ?_)))))))));refine Ae U (Ac U (Am U (Ac U (qA (A6 (CX (v1:=(.int _ _)) (v2:=(.bool _)) (v3:=(.int _ _)) U U U U U ?_))))))
  exact⟨F3,by rw[hpt],by rw[hpt];exact T3,(Grown.call0 hx1).trans g3⟩
abbrev Nd:=Int × Bool × List It
def Jg(f:Int->Int × List Nd):List It->Int × List Nd
 | []=>(0,[])
 |x::l=>if(f (x.page:Int)).1≠0 then f (x.page:Int)else((Jg f l).1,(f (x.page:Int)).2++(Jg f l).2)
def Fg(A:Dev)(fr sz:Nat):Nat->Int->Nat->Int × List Nd
 |0,_,_=>(9,[])
 |n+1,page,d=>match(Dp A fr sz page (d:Int)).2 with
  |none=>((Dp A fr sz page (d:Int)).1,[])
  |some (false,l)=>(0,[(page,false,l)])
  |some (true,l)=>((Jg (fun p=>Fg A fr sz n p (d+1)) l).1,(page,true,l)::(Jg (fun p=>Fg A fr sz n p (d+1)) l).2)
structure JOk(bt bd bp ba fr:Nat)(A:Dev)(P:List Nat)(F Z:Mut)(N l:Nat)(J:List Nd->Mut->World->Prop):Prop where
 lt:∀{v M w},J v M w->∀x,M x->x<w.heap.size
 ext:∀{v M w w'},J v M w->Ext [] w w'->J v M w'
 tx:∀{v M w},J v M w->Tx w bt bd bp ba fr A P F []
 round:∀{v:List Nd} {M:Mut} {w:World} (page:Int) (i:Bool) (a:Option Addr) (n c:Nat) (L:List It),J v M w->v.length<N->Its w (MZ M Z) a n c L->L.length<=65535->(∀x∈L,x.key.length<=505/\x.val.length<=505) -> -9223372036854775808<=page/\page<=9223372036854775807 ->
  Go.GV.YieldAt prog l [.int .i64 page,.agg #[.bool i,.slice a n c]] w fun u w'=>u=.bool true/\∃M',J (v++[(page,i,L)]) M' w'/\Grown M M' w w'
def ZH(bt fr:Nat)(A:Dev)(sz:Nat)(Z:Mut)(N l:Nat)(J:List Nd->Mut->World->Prop)(n:Nat):Prop :=
 ∀{w:World} {M:Mut} {v:List Nd},J v M w->(∀x,Z x->x<w.heap.size)->∀(page:Int) (d:Nat),d+n=17 -> -9223372036854775808<=page->page<=9223372036854775807->v.length+(Fg A fr sz (n+1) page d).2.length<=N ->
  Ret prog 152 #[ptr bt,.int .i64 page,.int .i64 (d:Int),.func (.yield l) #[] #[]] w fun r w'=>r=.tuple #[.bool (decide ((Fg A fr sz (n+1) page d).1=0)),.int .i64 (Fg A fr sz (n+1) page d).1]/\∃M',J (v++(Fg A fr sz (n+1) page d).2) M' w'/\Grown M M' w w'
theorem UQ{bt bd bp ba fr:Nat}{A:Dev}{P:List Nat}{F Z:Mut}{N l:Nat}{J:List Nd->Mut->World->Prop}(JO:JOk bt bd bp ba fr A P F Z N l J)(hfr:fr<=5000){mx:Nat}(hfew:Few A mx)(hmx:mx<=1000000000)(n:Nat)(IH:∀n',n=n'+1->ZH bt fr A P.length Z N l J n'):ZH bt fr A P.length Z N l J n:=by
 intro w M v hJ hZ page d hd hp1 hp2 hN;obtain⟨w0,rfl⟩:=qD w;obtain⟨ea,hea⟩:=qD (Fg A fr P.length (n+1) page d);rw[<-hea]at hN |-;rw[Fg]at hea;obtain⟨rt,hrt⟩:=qD (Dp A fr P.length page (d:Int));rw[<-hrt]at hea;refine A8 (fn:=f152) func152 U [.pointer (some ⟨bt,0,none⟩),.int .i64 page,.int .i64 (d:Int),.func (.yield l) #[] #[]] U ?_;refine Ad (Am U (Ac U (qA (Ad (An U (Ae U (Ae U (Aj qB (SK (JO.tx hJ) hfr page (d:Int) ⟨hp1,hp2⟩ hfew hmx) U ?_))))))));rintro v2 w2 ⟨inner,aa,nn,cc,rfl,hx20,hits⟩;rw[<-hrt]at hits;rw[<-hrt];have hJ2:=JO.ext hJ hx20;have H:=Ctx.start w2 [];refine AW U (Ai U U (Ai U U (Bi Co H ?_)));rintro b10 w - H;refine Bo Bg U U U (by simp[Bh]) H at0 U ?_;rintro w H;refine Ac U (qA (Ar (Ad (Ae U (Be U U (AF U (AQ 25 U ?_ ?_)))))))
 .intro hA;replace hA:=Bv hA
  have hnone:rt.2=none:=by
   cases h5:rt.2 with
   |none=>rfl
   |some r=>obtain⟨i,l⟩:=r;rw[hrt]at h5;rw[hrt]at hA;exact absurd (FL h5).1 hA
  rw[hnone]at hea;dsimp only at hea;refine Ag U (Ag U (Ag U (Ag U (Ag U (AN U (.bool _) U (qA (EI U (Ad (Ae U ?_)))))))));refine Am U (Ac U (qA (A6 (Ao (Cs (v1:=(.bool _)) (v2:=(.int _ _)) U U U U ?_)))));have hx3:=hx20.trans H.ext;refine⟨by rw[hea,qag hA],M,?_,.call0 hx3⟩;rw[hea]
  simpa using JO.ext hJ hx3
 .intro hA;replace hA:=Bw hA;have hA':rt.1=0:=by simpa using hA
  obtain⟨⟨i,li⟩,hsome⟩:∃r,rt.2=some r:=by
   cases h5:rt.2 with
   |none=>rw[hrt]at h5;rw[hrt]at hA';exact absurd hA' (Jb h5)
   |some r=>exact⟨r,rfl⟩
  obtain⟨-,hne,hd16,-,-,hll⟩:=FL (A:=A) (fr:=fr) (sz:=P.length) (page:=page) (depth:=(d:Int)) (by rw[<-hrt];exact hsome);obtain⟨rfl,I2f,hb⟩:=hits i li hsome;have I2:=I2f.weak (M':=MZ M Z) fun x h=>h.elim (JO.lt hJ x) (hZ x);rw[hsome]at hea;have hnum:=I2.num;obtain⟨O3,g3⟩:=Fo.nil.own (JO.lt hJ2) H;have I3:=(I2.weak (M':=MZ (MY M []) Z) fun x h=>h.elim (fun h => .inl (MY.nil x h)) .inr).turn (g3.or Z);have hJ3:=JO.ext hJ2 H.ext;have hx3:=hx20.trans H.ext
  have hvl:v.length<N:=by
   have:1<=ea.2.length:=by
    rw[hea]
    cases inner with
    |true=>simp
    |false=>simp
   omega
  obtain⟨w3,rfl⟩:=qD w;replace H:=O3.ctx;refine DY U (.func _ _ _) U ?_;refine Ae U (BO BQ Bg U H at0 U (RE U U (JO.round page inner aa nn cc li hJ3 hvl (I3.weak fun x h=>h.elim (fun h => .inl (.inl h)) .inr) hll (fun x hx=>⟨(hb x hx).1,(hb x hx).2.1⟩) ⟨hp1,hp2⟩) U ?_));rintro _ w4 ⟨rfl,M4,hJ4,g4⟩;obtain⟨O4,gy4⟩:=O3.call g4;have I4:=I3.turn (gy4.or Z);have gg4:=(Grown.call0 hx3).trans g4;replace H:=O4.ctx;refine Cl U (AM U (.bool _) U (qA (Bz U (Ap (Aa (Ar (Ad (Af Br U (AH BT U H at0 U (AO Bu U ?_))))))))))
  refine Ae U (qA (AB (B6 144115119356437248 (α:=Nat × List Nd × Mut) (fun s=>[(36,.int .i64 (s.1:Int))]) (fun s w'=>s.1<=nn/\J (v++[(page,inner,li)]++s.2.1) s.2.2 w'/\Fo w' s.2.2 [(b10,NBl inner aa nn cc)]/\Its w' (MZ (MY s.2.2 [(b10,NBl inner aa nn cc)]) Z) aa nn cc li/\Grown M s.2.2 w0 w'/\(inner=false->s.2.1=[])/\(inner=true->Jg (fun p=>Fg A fr P.length n p (d+1)) li=((Jg (fun p=>Fg A fr P.length n p (d+1)) (li.drop s.1)).1,s.2.1++(Jg (fun p=>Fg A fr P.length n p (d+1)) (li.drop s.1)).2))) (fun s=>nn - s.1) (0,[],M4) U ?_ ?_ ?_)))
  .exact⟨rfl,trivial⟩
  .exact⟨qak _,by rw[qa3];exact hJ4,O4,I4,gg4,fun _=>rfl,fun _=>rfl⟩
  .rintro⟨i,vs,M5⟩ j w ⟨hi,hJ5,O5,I5,g5,hvs,hkg⟩;dsimp only at hi hJ5 O5 I5 g5 hvs hkg;dsimp only;obtain⟨ms,R,-,hl,hok⟩:=I5.ex;have hml:ms.length=nn:=by rw[hnum,<-hl,qai]
   have hb10:=O5.blk (b10,_) (qaa.2 rfl);have H:=Ctx.start w [];refine Ad (Bj U U (qA (Ar (Av _ U ?_ ?_))))
   .intro hB;replace hB:=AR hB;obtain⟨x,hx1⟩:=AP (l:=ms) (i:=i);have hxL:=Im.at hl hx1;have hxb:=hb x.it (qad hxL);obtain⟨wl,rfl⟩:=qD w;refine Ap (Aa (Ar (AB (Ad (AY R Bu Bn U U ?_)))));refine EN _ Dq Bn U U (R.row hx1 U) (Bi C2 H ?_);rintro b13 w - H;refine Bo Bn U U U (by exact Im.oneE _) H at0 U ?_;rintro w H;refine qA (Ar (Ad (Af Dy U (Bd Ge U ((by rw[Aq (show _=some (NBl inner aa nn cc)from by rw[H.ext.block b10 (Al hb10) (by simp)];exact hb10)];rfl)) ?_))));refine Cl U (qA (Av _ U ?_ ?_))
    .intro hC;replace hC:=C8 hC;have hea1:ea=(0,[(page,inner,li)]):=by rw[hea,hC]
     refine B2 (Aw (Ac0 U (Aw (Aw (AZ (Aa (Ad (Am U (Ac U (qA (A6 (Cs (v1:=(.bool _)) (v2:=(.int _ _)) U U U U ?_))))))))))));refine⟨by rw[hea1];rfl,M5,?_,g5.trans (.call0 H.ext)⟩;rw[hea1];have:=JO.ext hJ5 H.ext;rw[hvs hC,qa3]at this;exact this
    .intro hC;replace hC:=CA hC;replace hea:ea=((Jg (fun p=>Fg A fr P.length n p (d+1)) li).1,(page,inner,li)::(Jg (fun p=>Fg A fr P.length n p (d+1)) li).2):=by rw[hea,hC]
     have hkg:=hkg hC;rw[Ew hxL,Jg]at hkg;obtain⟨n',rfl⟩:∃n',n=n'+1:=⟨n - 1,by omega⟩;obtain⟨f5,hf5⟩:=qD (Fg A fr P.length (n'+1) (x.it.page:Int) (d+1));rw[<-hf5]at hkg
     have hN5:(v++[(page,inner,li)]++vs).length+f5.2.length<=N:=by
      rw[hea,hkg]at hN
      by_cases h0:f5.1≠0
      .rw[if_pos h0]at hN;simp only[qan,qav,qby]at hN |-;omega
      .rw[if_neg h0]at hN;simp only[qan,qav,qby]at hN |-;omega
     refine Ap (Aa (Ad (An U (Af Gf U (AH DV U H at0 U (Ae U (Ay U U ?_)))))));rw[show((d:Int)+1)=((d+1:Nat):Int)by omega];refine DY U (.func _ _ _) U ?_;have hx6:=H.ext;refine Aj qB (IH n' U (JO.ext hJ5 hx6) (fun x h=>qau (hZ x h) (qaw g5.1.size hx6.size)) (x.it.page:Int) (d+1) (by omega) (by omega) (by omega) (by rw[<-hf5];exact hN5)) U ?_;rintro v7 w7 ⟨rfl,M7,hJ7,g7⟩;rw[<-hf5]at hJ7;rw[<-hf5];obtain⟨O6,gy6⟩:=O5.call (.call0 hx6);obtain⟨O7,gy7⟩:=O6.call g7;have I7:=(I5.turn (gy6.or Z)).turn (gy7.or Z);have gg7:=(g5.trans (.call0 hx6)).trans g7;refine AW U (Ai U U (Ai U U (Am U (Ac U (qA (Ad (AF U (Cl U (qA ?_)))))))));refine Av _ U ?_ ?_
     .intro hD;replace hD:=C8 hD;have hD':f5.1≠0:=by simpa using hD
      rw[if_pos hD']at hkg;refine Ad (Ae U (Am U (Ac U (qA (A6 (AK (Ao (Ao (AK (Ao (Cs (v1:=(.bool _)) (v2:=(.int _ _)) U U U U ?_)))))))))));refine⟨by rw[hea,hkg];dsimp only;rw[qag hD'],M7,?_,gg7⟩;rw[hea,hkg]
      simpa using hJ7
     .intro hD;replace hD:=CA hD;have hD':f5.1=0:=by simpa using hD
      rw[if_neg (by rw[hD'];simp)]at hkg;refine Ap (AE (Aa (Au (Ay U U ?_))));refine Ae U (qA ?_);exact⟨(i+1,vs++f5.2,M7),rfl,⟨rfl,trivial⟩,⟨by dsimp only;omega,by dsimp only;rw[<-qa1];exact hJ7,O7,I7,gg7,(fun h=>by rw[hC]at h;cases h),fun _=>by dsimp only;rw[hkg,qa1]⟩,by dsimp only;omega⟩
   .intro hB;replace hB:=AU hB;have hii:i=nn:=by omega
    refine B2 (Aw (Aw (AZ (Aa (Ad (Am U (Ac U (qA (A6 (Cs (v1:=(.bool _)) (v2:=(.int _ _)) U U U U ?_))))))))))
    cases inner with
    |false =>
     dsimp only at hea;refine⟨by rw[hea];rfl,M5,?_,g5⟩;rw[hea];rw[hvs rfl,qa3]at hJ5;exact hJ5
    |true =>
     dsimp only at hea;have hkg:=hkg rfl;rw[qb8 (by omega),Jg,qa3]at hkg;refine⟨by rw[hea,hkg];rfl,M5,?_,g5⟩;rw[hea,hkg]
     simpa using hJ5
theorem XH{bt bd bp ba fr:Nat}{A:Dev}{P:List Nat}{F Z:Mut}{N l:Nat}{J:List Nd->Mut->World->Prop}(JO:JOk bt bd bp ba fr A P F Z N l J)(hfr:fr<=5000){mx:Nat}(hfew:Few A mx)(hmx:mx<=1000000000):∀n,ZH bt fr A P.length Z N l J n
 |0=>UQ JO hfr hfew hmx 0 fun n' h=>by omega
 |n+1=>UQ JO hfr hfew hmx (n+1) fun n' h=>by
   obtain rfl:n=n':=by omega
   exact XH JO hfr hfew hmx n
def Eu(A:Dev)(fr sz:Nat)(root:Int):Int × List Nd:=if root = -1 then(0,[])else Fg A fr sz 18 root 0
theorem XI(bt be:Nat)(root:Int)(w:World):Ret prog 124 #[ptr bt,.int .i64 root,ptr be] w fun v w'=>∃b3 b4 b5,v=.func (.func 151) #[] #[ptr b4,ptr b3,ptr b5]/\(∃t,w'.heap[b4]?=some (Bl t [.int .i64 root]))/\(∃t,w'.heap[b3]?=some (Bl t [ptr bt]))/\(∃t,w'.heap[b5]?=some (Bl t [ptr be]))/\w.heap.size<=b4/\w.heap.size<=b3/\w.heap.size<=b5/\Ext [] w w':=by
 obtain⟨w0,rfl,H⟩:=qE w;refine A8 (fn:=f124) func124 U [.pointer (some ⟨bt,0,none⟩),.int .i64 root,.pointer (some ⟨be,0,none⟩)] U ?_;refine Ad (Cu _ (.pointer _) U U H ?_);rintro b3 w - H;refine Cu _ (.int _ _) U U H ?_;rintro b4 w - H;refine Cu _ (.pointer _) U U H ?_;rintro b5 w - H;refine Ei U .nilFunc U (qA (Ad (CG [.pointer _,.pointer _,.pointer _] U (Ei U (.func _ _ _) U ?_))));refine qA (A6 (AG (v:=(.func _ _ _)) U U U ?_));have ho:∀x∈[(b5,Bl 179 [ptr be]),(b4,Bl 3 [.int .i64 root]),(b3,Bl 90 [ptr bt])],w0.heap.size<=x.1:=fun x hx=>(H.own x hx).elim (fun h=>by cases h) id
 exact⟨b3,b4,b5,rfl,⟨_,H.get at1⟩,⟨_,H.get at2⟩,⟨_,H.get at0⟩,ho (b4,_) (qaj _ (qaf ..)),ho (b3,_) (qaj _ (qaj _ (qaf ..))),ho (b5,_) (qaf ..),H.ext⟩
theorem UR{bt bd bp ba fr:Nat}{A:Dev}{P:List Nat}{F Z:Mut}{N l:Nat}{J:List Nd->Mut->World->Prop}(JO:JOk bt bd bp ba fr A P F Z N l J)(hfr:fr<=5000){mx:Nat}(hfew:Few A mx)(hmx:mx<=1000000000){w:World}{M:Mut}(hJ:J [] M w)(hZ:∀x,Z x->x<w.heap.size){b3 b4 b5 be t3 t4 t5 te:Nat}{root:Int}(h4:w.heap[b4]?=some (Bl t4 [.int .i64 root]))(h3:w.heap[b3]?=some (Bl t3 [ptr bt]))(h5:w.heap[b5]?=some (Bl t5 [ptr be]))(he:w.heap[be]?=some (Bl te [.int .i64 0]))(n4:¬M b4)(n3:¬M b3)(n5:¬M b5)(ne:¬M be)(hr1 : -9223372036854775808<=root)(hr2:root<=9223372036854775807)(hN:(Eu A fr P.length root).2.length<=N) :
  Ret prog 151 #[.func (.yield l) #[] #[],ptr b4,ptr b3,ptr b5] w fun _ w'=>∃wx M',J (Eu A fr P.length root).2 M' wx/\Grown M M' w wx/\Ext [be] wx w'/\w'.heap[be]?=some (Bl te [.int .i64 (Eu A fr P.length root).1]):=by
 obtain⟨w0,rfl⟩:=qD w;obtain⟨g,hg⟩:=qD (Eu A fr P.length root);rw[<-hg]at hN |-;unfold Eu at hg;refine A8 (fn:=f151) func151 U [.func (.yield l) #[] #[],.pointer (some ⟨b4,0,none⟩),.pointer (some ⟨b3,0,none⟩),.pointer (some ⟨b5,0,none⟩)] U ?_;have H:=Ctx.start w0 [];refine Ad (Bd DV U ((by rw[Aq h4];rfl)) ?_);refine Be U U (qA (Av _ U ?_ ?_))
 .intro hA;replace hA:=Bv hA;rw[if_neg hA]at hg;have hg':g=Fg A fr P.length (17+1) root 0:=hg;refine IK [([0,1,2,3],4),([5,6,7,8],9)] (fun z=>z.heap[b5]?=some (Bl t5 [ptr be])/\z.heap[b3]?=some (Bl t3 [ptr bt])/\z.heap[b4]?=some (Bl t4 [.int .i64 root])) [9] mixed (⟨h5,h3,h4⟩) ?_;refine AD U U (BC An9 U (fun _ hx=>(by rw[Aq hx.1];rfl)) ?_);refine BC JL U (fun _ hx=>(by rw[Aq hx.2.1];rfl)) ?_;refine BC DV U (fun _ hx=>(by rw[Aq hx.2.2];rfl)) ?_;refine MV U (.func _ _ _) U ?_;refine AV ?_
  skip
  refine Aj qB (XH JO hfr hfew hmx 17 (JO.ext hJ (Ext.drew [] w0)) hZ root 0 (by omega) hr1 hr2 (by rw[<-hg'];simpa using hN)) U ?_;rintro v w3 ⟨rfl,M3,hJ3,g3⟩;rw[<-hg',qa7]at hJ3;rw[<-hg'];have gg:=(Grown.call0 (Ext.drew [] w0)).trans g3;have H:=Ctx.start1 (gg.keep he ne);refine Ab (Bb (⟨gg.keep h5 n5,gg.keep h3 n3,gg.keep h4 n4⟩) (AD U U ?_));refine Iv U (C4 U U (C4 U U (Bm U (AV (Bf (.int _ _) FZ U U U H at0 (by decide) ?_)))));rintro w H;refine Ab (CQ U (B4 (HC U U ?_)));exact⟨w3,M3,hJ3,gg,H.ext,H.get at0⟩
 .intro hA;replace hA:=Bw hA;rw[if_pos (by simpa using hA)]at hg;refine Ap (HC U U ?_);exact⟨w0,M,by rw[hg];exact hJ,.call0 (.refl _ _),.refl _ _,by rw[hg];exact he⟩
def iv(x:Int):Value := .int .i64 x
abbrev Jh(l:List Int):List Int:=l.mergeSort fun x y=>decide (x<=y)
theorem SZ(full:List Value)(ts:List Int)(h:ts.length<=full.length):(Go.Sort.putCells (Value.int .i64) 0 ts.toArray full.toArray).toList=ts.map iv++full.drop ts.length:=by
 apply qci;intro j
 by_cases hj:j<ts.length
 .rw[qdj (by simpa using hj),qdi];simp[Go.Sort.putCells,hj,show j<full.length by omega,iv]
 .rw[qc8 (by simp;omega),qdi,qcm]
  by_cases h2:j<full.length
  .simp[Go.Sort.putCells,hj,h2,show ts.length+(j - ts.length)=j by omega]
  .rw[qbz (by simp;omega)];simp[Go.Sort.putCells,h2]
theorem Ajg{w:World}{b t c:Nat}{full:List Value}{l:List Int}(hb:w.heap[b]?=some (Bl t full))(hl:full.take l.length=l.map iv)(hsz:l.length<=1000000)(hf:l.length<=full.length:=by omega):
  Ret prog 125 #[.slice (some ⟨b,0,none⟩) l.length c] w fun v w'=>v=.tuple #[]/\w'.heap[b]?=some (Bl t ((Jh l).map iv++full.drop l.length))/\Ext [b] w w':=by
 have hH:=Go.holds_of_blockI (ss:=l) hb (by rw[List.toList_toArray];exact hl);have h:=Go.Proofs.AnyM.slices_Sort_int sortA b 0 c l w hH (Al hb) (by omega);refine CallsIn.mono (callsIn_wide.2 h) ?_;rintro e w' ⟨rfl,n,os,rfl⟩;have g:=Go.grownBy_sortedI (n:=n) (os:=os) (w:=w) (g:=b) (Jh l).toArray;refine⟨_,rfl,rfl,?_,?_⟩
 .rw[Go.heap_sortedI (Jh l).toArray hb];have h1:=SZ full (Jh l) (by rw[qcu];exact hf);rw[qcu]at h1;show some (Obj.cells _ t (0,0))=some (Obj.cells _ t (0,0));rw[<-h1]
 .obtain⟨g1,g2,g3,g4,g5⟩:=g;exact⟨g1,g2,g3,g4,fun x hx hn=>g5 x hx (by simpa using fun e=>hn (by simp[e]))⟩
theorem Aed(c:Nat)(w:World):Ret prog 125 #[.slice none 0 c] w fun v w'=>v=.tuple #[]/\w=w':=by
 refine CallsIn.mono (callsIn_wide.2 (Go.Proofs.AnyM.slices_Sort_int_none sortA none c w)) ?_;rintro e w' ⟨rfl,rfl⟩;exact⟨_,rfl,rfl,rfl⟩
structure GJ(w0:World)(bt bd bp ba fr:Nat)(A:Dev)(P:List Nat)(F:Mut)(tL tE s b l:Nat)(lo:Loop)(vals:List Value)(M:Mut)(w:World)(a:Option Addr)(n c:Nat)(full:List Value):Prop where
 M:M=fun x=>x=l\/x∈((b,Bl tL [.slice a n c])::ent a tE full).map (·.1)
 tx:Tx w bt bd bp ba fr A P F []
 loop:w.heap[l]?=some (.loop lo)
 blk:∀y∈(b,Bl tL [.slice a n c])::ent a tE full,w.heap[y.1]?=some y.2/\w0.heap.size<=y.1/\y.1≠l
 nd:((b,Bl tL [.slice a n c])::ent a tE full).Pairwise fun x y=>x.1≠y.1
 os:OS a n c s full vals
section
variable {w0 w wR wE wF:World}{bt bd bp ba fr:Nat}{A:Dev}{P:List Nat}{F M:Mut}{tL tE s b l:Nat}{lo lo2:Loop}{vals vals':List Value}{a a':Option Addr}{n n' c c':Nat}{full full':List Value}
theorem GJ.lt(G:GJ w0 bt bd bp ba fr A P F tL tE s b l lo vals M w a n c full):∀x,M x->x<w.heap.size:=fun x h=>by
 rw[G.M]at h
 rcases h with rfl|h
 .exact Al G.loop
 .obtain⟨y,hy,rfl⟩:=qah.1 h;exact Al (G.blk y hy).1
theorem GJ.ext(G:GJ w0 bt bd bp ba fr A P F tL tE s b l lo vals M w a n c full){w':World}(hx:Ext [] w w'):GJ w0 bt bd bp ba fr A P F tL tE s b l lo vals M w' a n c full :=
 ⟨G.M,G.tx.call hx,by rw[hx.block l (Al G.loop) (by simp)];exact G.loop,fun y hy=>⟨by rw[hx.block y.1 (Al (G.blk y hy).1) (by simp)];exact(G.blk y hy).1,(G.blk y hy).2⟩,G.nd,G.os⟩
theorem GJ.body(G:GJ w0 bt bd bp ba fr A P F tL tE s b l lo vals M w a n c full)(hxR:Ext [l] w wR):Ctx wR (((b,Bl tL [.slice a n c])::ent a tE full).map (·.1)) wR ((b,Bl tL [.slice a n c])::ent a tE full) :=
 Ctx.startL (fun y hy=>by rw[hxR.block y.1 (Al (G.blk y hy).1) (by simpa using(G.blk y hy).2.2)];exact(G.blk y hy).1) G.nd
theorem GJ.next(G:GJ w0 bt bd bp ba fr A P F tL tE s b l lo vals M w a n c full)(h0:∀x,TM F ba bt bp [] x->x<w0.heap.size)(hl0:w0.heap.size<=l)(hxR:Ext [l] w wR)(H:Ctx wR (((b,Bl tL [.slice a n c])::ent a tE full).map (·.1)) wE ((b,Bl tL [.slice a' n' c'])::ent a' tE full'))(hO:OS a' n' c' s full' vals')(hxF:Ext [l] wE wF)(hlF:wF.heap[l]?=some (.loop lo)) :
  GJ w0 bt bd bp ba fr A P F tL tE s b l lo vals' (fun x=>x=l\/x∈((b,Bl tL [.slice a' n' c'])::ent a' tE full').map (·.1)) wF a' n' c' full'/\Grown M (fun x=>x=l\/x∈((b,Bl tL [.slice a' n' c'])::ent a' tE full').map (·.1)) w wF:=by
 have hll:=Al G.loop;have hsR:=hxR.size
 have hnew:∀y∈(b,Bl tL [.slice a' n' c'])::ent a' tE full',w0.heap.size<=y.1/\y.1≠l/\(y.1∈((b,Bl tL [.slice a n c])::ent a tE full).map (·.1)\/w.heap.size<=y.1):=fun y hy=>by
  have hsz:w0.heap.size<=w.heap.size:=by omega
  rcases H.own y hy with h|h
  .obtain⟨z,hz,he⟩:=qah.1 h;exact⟨by rw[<-he];exact(G.blk z hz).2.1,by rw[<-he];exact(G.blk z hz).2.2,.inl h⟩
  .exact⟨by omega,by omega,.inr (by omega)⟩
 have hx:Ext (l::((b,Bl tL [.slice a n c])::ent a tE full).map (·.1)) w wF :=
  ((hxR.mono (fun x h=>by rw[qaa.1 h];exact qaf ..)).trans (H.ext.mono fun x h=>qaj _ h)).trans (hxF.mono fun x h=>by rw[qaa.1 h];exact qaf ..)
 refine⟨⟨rfl,G.tx.side hx fun x h hT=>?_,hlF,fun y hy=>⟨?_,(hnew y hy).1,(hnew y hy).2.1⟩,H.nd,hO⟩,⟨⟨_,fun x h=>?_,hx⟩,fun x h=>?_⟩⟩
 .have:=h0 x hT
  rcases qac.1 h with rfl|h
  .omega
  .obtain⟨y,hy,rfl⟩:=qah.1 h;have:=(G.blk y hy).2.1;omega
 .rw[hxF.block y.1 (Al (H.blk y hy)) (by simpa using(hnew y hy).2.1)];exact H.blk y hy
 .rw[G.M]
  rcases qac.1 h with rfl|h
  .exact .inl U
  .exact .inr h
 .rw[G.M]
  rcases h with rfl|h
  .exact .inl (.inl U)
  .obtain⟨y,hy,rfl⟩:=qah.1 h;exact(hnew y hy).2.2.imp .inr id
end
theorem Hy{P:Program}{e:Env}{w:World}{fn:Func}{R:Value->World->Prop}{a1 a2:Tmp}{t1 t2:TypeId}{b1 b2:Nat}(hr:fn.results=#[.cell a1 t1,.cell a2 t2])(h1:e.g a1=.pointer (some ⟨b1,0,none⟩))(h2:e.g a2=.pointer (some ⟨b2,0,none⟩))(hg1:DT P t1=some false)(hg2:DT P t2=some false)(h:Marks e.ds w fun w'=>∃v1 v2 x1 x2 l1 l2,w'.heap[b1]?=some (Bl x1 (v1::l1))/\w'.heap[b2]?=some (Bl x2 (v2::l2))/\R (.tuple #[v1,v2]) w'):Aa3 P fn R .ret e w :=
 Marks.mono (fun w' ⟨v1,v2,x1,x2,l1,l2,hb1,hb2,hR⟩ tmps ht=>by
  have g1:=(ht a1).trans h1;have g2:=(ht a2).trans h2;rw[qbt]at g1 g2;have k1:(loadVar t1 ⟨b1,0,none⟩).run P w'=.ok v1 w':=Hp hg1 (by rw[Aq hb1];rfl);have k2:(loadVar t2 ⟨b2,0,none⟩).run P w'=.ok v2 w':=Hp hg2 (by rw[Aq hb2];rfl)
  exact⟨_,by simp[results,hr,g1,g2,asAddr,k1,k2],hR⟩) h
theorem Lt{w6 w:World}{ids:List Nat}{L':List (Nat × Obj)}(H:Ctx w6 ids w L'){Db:Nat}(hD6:w6.heap[Db]?=some (.deferred (some [])))(hids:Db∉ids){K:World->Prop}{ds:List Deferred}(hds:ds=[{ target := .collected Db,args:=#[] }])(hK:∀wF,Ext [Db] w wF->(∀(b t:Nat) (l:List Value),w.heap[b]?=some (Bl t l)->wF.heap[b]?=some (Bl t l))->K wF):Marks ds w K:=by
 have hD:w.heap[Db]?=some (.deferred (some [])):=by rw[H.ext.block Db (Al hD6) hids];exact hD6
 subst hds;refine⟨Db,rfl,hD,hK _ (Ext.setB w Db _) fun b t l hb=>?_⟩
 rw[(Ext.setB w Db _).block b (Al hb) (by
  rw[qaa];rintro rfl;rw[hD]at hb
  cases hb)]
 exact hb
theorem Ajh{w:World}{a:Option Addr}{n c t:Nat}{full:List Value}{l:List Int}(O:OS a n c 1 full (l.map iv))(hb:∀y∈ent a t full,w.heap[y.1]?=some y.2)(hsz:l.length<=1000000) :
  Ret prog 125 #[.slice a n c] w fun v w'=>v=.tuple #[]/\∃full',(∀y∈ent a t full',w'.heap[y.1]?=some y.2)/\OS a n c 1 full' ((Jh l).map iv)/\Ext ((ent a t full).map (·.1)) w w':=by
 have hn:n=l.length:=O.num
 cases ha:a with
 |none =>
  have h0:=O.none' ha;have h1:=O.le;have hl:l=[]:=qa4 (by omega);subst hl hn ha;refine Ret.mono (Aed c w) ?_;rintro v w' ⟨rfl,rfl⟩;exact⟨rfl,full,(fun y hy=>by cases hy),by simpa[Jh]using O,.refl _ _⟩
 |some p =>
  have hp:=O.zero p ha;subst ha;rw[hp]at hb O |-;have h2:=O.len;have h3:=O.le;have hpre:=O.pre;rw[qcj]at hpre h2;subst hn;refine Ret.mono (Ajg (c:=c) (hb (p.block,_) (qaa.2 U)) hpre hsz) ?_;rintro v w' ⟨rfl,h4,h5⟩;refine⟨rfl,_,fun y hy=>by rw[qaa.1 hy];exact h4,⟨O.zero,O.none',?_,O.le,?_⟩,h5⟩
  .rw[qan,qai,qcu,qbg];omega
  .rw[qcj,qd7 (by rw[qai,qcu])]
theorem _root_.Go.GV.Ctx.sorted{w6 w7:World}{S:List Nat}{b5 b4 t:Nat}{o5 o4:Obj}{a:Option Addr}{full full':List Value}(H:Ctx w6 S w6 ((b5,o5)::(b4,o4)::ent a t full))(hf:∀y∈ent a t full',w7.heap[y.1]?=some y.2)(hx:Ext ((ent a t full).map (·.1)) w6 w7)(h4:∀y∈ent a t full,b4≠y.1)(h5:∀y∈ent a t full,b5≠y.1)(hS:S=((b5,o5)::(b4,o4)::ent a t full).map (·.1)):Ctx w6 S w7 ((b5,o5)::(b4,o4)::ent a t full'):=by
 subst hS
 have hid:∀y∈ent a t full',∃z∈ent a t full,z.1=y.1:=fun y hy=>by
  cases a with
  |none=>cases hy
  |some q=>rw[qaa.1 hy];exact⟨_,qaa.2 rfl,rfl⟩
 have hnd:=qbh.1 H.nd;refine⟨hx.mono fun x h=>qaj _ (qaj _ h),fun y hy=>?_,qbh.2 ⟨fun y hy=>?_,qbh.2 ⟨fun y hy=>?_,?_⟩⟩,fun y hy => .inl ?_⟩
 .rcases qac.1 hy with rfl|hy
  .rw[hx.block b5 (Al (H.get at0)) fun h=>by obtain⟨y,hy,he⟩:=qah.1 h;exact h5 y hy he.symm];exact H.get at0
  .rcases qac.1 hy with rfl|hy
   .rw[hx.block b4 (Al (H.get at1)) fun h=>by obtain⟨y,hy,he⟩:=qah.1 h;exact h4 y hy he.symm];exact H.get at1
   .exact hf y hy
 .rcases qac.1 hy with rfl|hy
  .exact hnd.1 _ (qaf ..)
  .obtain⟨z,hz,he⟩:=hid y hy;rw[<-he];exact h5 z hz
 .obtain⟨z,hz,he⟩:=hid y hy;rw[<-he];exact h4 z hz
 .cases a with
  |none=>exact List.Pairwise.nil
  |some q=>exact qeo ..
 .rcases qac.1 hy with rfl|hy
  .exact qaf ..
  .rcases qac.1 hy with rfl|hy
   .exact qaj _ (qaf ..)
   .obtain⟨z,hz,he⟩:=hid y hy;rw[<-he];exact qaj _ (qaj _ (qah.2 ⟨z,hz,rfl⟩))
def Lu(A:Dev)(fr sz:Nat)(root:Int):Int × List Int :=
 if Ij sz root≠0 then(1,[])else if(Eu A fr sz root).1≠0 then((Eu A fr sz root).1,[])else(0,Jh ((Eu A fr sz root).2.map (·.1)))
theorem XJ{fr:Nat}{w:World}{bt bd bp ba:Nat}{A:Dev}{P:List Nat}{F:Mut}(T:Tx w bt bd bp ba fr A P F [])(root:Int){mx:Nat}(hfew:Few A mx)(hmx:mx<=1000000000)(hfr:fr<=5000:=by decide)(hr1: -9223372036854775808<=root:=by omega)(hr2:root<=9223372036854775807:=by omega)(hN:(Eu A fr P.length root).2.length<=100000:=by omega):
  Ret prog 92 #[ptr bt,.int .i64 root] w fun v w'=>∃a c,v=.tuple #[.slice a (Lu A fr P.length root).2.length c,.int .i64 (Lu A fr P.length root).1]/\Rd w' a 1 (fun x:Int=>[.int .i64 x]) (Lu A fr P.length root).2/\((Lu A fr P.length root).2=[]\/w.heap.size<=(adr a).block)/\(Lu A fr P.length root).2.length<=c/\Ext [] w w':=by
 obtain⟨w0,rfl⟩:=qD w;obtain⟨wt,hwt⟩:=qD (Lu A fr P.length root);rw[<-hwt];unfold Lu at hwt;have h0:=T.mlt;have H:=Ctx.start w0 [];refine JK (fn:=f92) func92 U [.pointer (some ⟨bt,0,none⟩),.int .i64 root] U ?_;refine Ad (Bi zc_40 H ?_);rintro b4 w - H;refine Bi WW H ?_;rintro b5 w - H;refine qA (Ar (Ad (An U (Ae U (Aj qB (Q8 (T.call H.ext) root) U ?_)))));rintro v w2 ⟨rfl,rfl⟩;refine Ac U (qA (Ad (Ae U (Be U U (qA (Av _ U ?_ ?_))))))
 .intro hA;replace hA:=Bv hA;rw[if_pos hA]at hwt;have he:Ij P.length root=1:=by unfold Ij at hA |-;split <;> simp_all
  rw[he];refine Ad (Ae U (Bf (.slice _ _ _) Sf U U U H at1 (by decide) ?_));rintro w H;refine Bf (.int _ _) FZ U U U H at0 (by decide) ?_;rintro w H;refine qA (A6 (Ao (Hy U U U IQ EY ?_)));exact⟨_,_,_,_,_,_,H.get at1,H.get at0,none,0,by rw[hwt];rfl,by rw[hwt];exact Rd.nil,by rw[hwt];exact .inl rfl,by rw[hwt];exact qae _,H.ext⟩
 .intro hA;replace hA:=Bw hA;rw[if_neg (by simpa using hA)]at hwt;obtain⟨ng,hng⟩:=qD (Eu A fr P.length root);rw[<-hng]at hwt hN;refine Ap (Aa (Ar (Ad (An U (Ae U ?_)))));have hb4w:=H.lt (k:=1) rfl;have hb5w:=H.lt (k:=0) rfl;refine Aj qB (XI bt b5 root _) U ?_;rintro v w3 ⟨x3,x4,x5,rfl,⟨t4,hx4⟩,⟨t3,hx3⟩,⟨t5,hx5⟩,n4,n3,n5,hxn⟩;replace H:=H.call hxn;refine qA (AB (HM U qB ?_));intro fn tmps hts htm Db l w2 hDb hl hx2 hD hrec;obtain⟨lo,hlo,hrec'⟩:∃lo,lo=_/\w2.heap[l]?=some (.loop lo):=⟨_,rfl,hrec⟩;have hw03:=H.ext;have hs03:=hw03.size;have hs32:=hx2.size;have up2:∀{b:Nat} {o:Obj},w3.heap[b]?=some o->w2.heap[b]?=some o:=fun{b o} g=>by rw[hx2.block b (Al g) (by simp)];exact g
  have hb4:=H.get at1;have hb5:=H.get at0;have hb45:=H.ne at1 at0 (by decide);have ho4:w0.heap.size<=b4:=(H.own _ (qaj _ (qaf ..))).elim (fun h=>by cases h) id;have ho5:w0.heap.size<=b5:=(H.own _ (qaf ..)).elim (fun h=>by cases h) id;have hl4:=Al hb4;have hl5:=Al hb5;have hxl4:=Al hx4;have hxl3:=Al hx3;have hxl5:=Al hx5;have hN':(Eu A fr P.length root).2.length<=100000:=by rw[<-hng];exact hN
  have JO:JOk bt bd bp ba fr A P F Z0 100000 l (fun v M w=>∃a n c full,GJ w0 bt bd bp ba fr A P F 40 3 1 b4 l lo (v.map fun x=>iv x.1) M w a n c full):=by
   refine⟨fun{v M w} h=>?_,fun{v M w w'} h hx=>?_,fun{v M w} h=>?_,?_⟩
   .obtain⟨a,n,c,full,G⟩:=h;exact G.lt
   .obtain⟨a,n,c,full,G⟩:=h;exact⟨a,n,c,full,G.ext hx⟩
   .obtain⟨a,n,c,full,G⟩:=h;exact G.tx
   .rintro v M w page i a7 n7 c7 L7 ⟨a,n,c,full,G⟩ hv I hL hLb hpg;have hn:n=v.length:=by have:=G.os.num;exact this
    have hloop:=G.loop;subst hlo;refine KW hloop U (IP _ (NQ hts htm) ?_);refine Au (Ac U (Ab (Li hloop U ?_)));intro wR lo2 hxR hlR hlo2;have H:=G.body hxR;have O:=G.os;refine AB (Au (AH IQ U H at0 U (Ae U (BI [.int .i64 page] (.int .i64 page) FE HN Zv U U U U H ?_))));rintro b21 w - H;refine BL (L:=[_]) FE FE HN by_3 Zv U U U H O U (by simp[Bh]) ?_;rintro a22 c22 f22 w H O22;refine Bf (.slice _ _ _) Sf U U U H at0 (by(simp;done)) ?_;rintro w H;refine Ab (AE ?_);have H9:=H
    have hlE:w.heap[l]?=some (.loop lo2):=by
     rw[H9.ext.block l (Al hlR) fun h=>?_]
     .exact hlR
     .obtain⟨y,hy,he⟩:=qah.1 h;exact(G.blk y hy).2.2 he
    refine IG hlE hlo2 U U ?_;intro wF hxF hlF;have O23:OS a22 (n+1) c22 1 f22 ((v++[(page,i,L7)]).map fun x=>iv x.1):=by rw[qay];exact O22
    obtain⟨G9,g9⟩:=G.next h0 (by omega) hxR H9 O23 hxF hlF
    exact⟨rfl,_,⟨a22,n+1,c22,f22,G9⟩,g9⟩
  have hJ0:(fun(v:List Nd) (M:Mut) (w:World)=>∃a n c full,GJ w0 bt bd bp ba fr A P F 40 3 1 b4 l lo (v.map fun x=>iv x.1) M w a n c full) [] (fun x=>x=l\/x∈((b4,Bl 40 [.slice none 0 0])::ent none 3 []).map (·.1)) w2:=by
   refine⟨none,0,0,[],rfl,T.call (hw03.trans hx2),hrec',fun y hy=>?_,qeo ..,OS.nil⟩;rw[qaa.1 hy];exact⟨up2 hb4,ho4,by dsimp only;omega⟩
  have hnM:∀x,x≠l->x≠b4->¬(x=l\/x∈((b4,Bl 40 [.slice none 0 0])::ent none 3 []).map (·.1)):=fun x h1 h2 h=>by
   rcases h with h|h
   .exact h1 h
   .exact h2 (by simpa[ent]using h)
  refine Ret.mono (UR JO hfr hfew hmx hJ0 (fun x h=>h.elim) (up2 hx4) (up2 hx3) (up2 hx5) (up2 hb5) (hnM _ (by omega) (by omega)) (hnM _ (by omega) (by omega)) (hnM _ (by omega) (by omega)) (hnM _ (by omega) (Ne.symm hb45)) hr1 hr2 hN') ?_;rintro v w4 ⟨wx,Mx,⟨a,n,c,full,G⟩,gx,hx5w,he5⟩;rw[<-hng]at G he5;have hloop:=G.loop;have hb5l:b5≠l:=by omega
  have hx1:w4.heap[l]?=some (.loop lo):=by rw[hx5w.block l (Al hloop) (by simpa using fun h=>hb5l h.symm)];exact hloop
  refine⟨_,hx1,by subst hlo;exact(fun h=>by cases h),HR (by rw[hlo]) ?_⟩;have hx6:=Ext.setB w4 l (.loop { lo with state := .exhausted });generalize w4.putObj l (.loop { lo with state := .exhausted })=w6 at hx6 |-
  have hEnt:∀y∈(b4,Bl 40 [.slice a n c])::ent a 3 full,w6.heap[y.1]?=some y.2:=fun y hy=>by
   have h1:=G.blk y hy
   have h2:y.1≠b5:=fun e=>by
    rcases gx.2 y.1 (by rw[G.M];exact .inr (qah.2 ⟨y,hy,rfl⟩))with h|h
    .exact hnM y.1 h1.2.2 (fun e4=>hb45 (e4 ▸ e)) h
    .omega
   rw[hx6.block y.1 (qau (Al h1.1) hx5w.size) (by simpa using h1.2.2),hx5w.block y.1 (Al h1.1) (by simpa using h2)];exact h1.1
  have hb56:w6.heap[b5]?=some (Bl 28 [.int .i64 ng.1]):=by
   rw[hx6.block b5 (Al he5) (by simpa using hb5l)];exact he5
  obtain⟨⟨Sg,hSg,hxg⟩,hgg⟩:=gx;have hsx:=hxg.size;have hs45:=hx5w.size;have hs46:=hx6.size;have hM2:∀x,(x=l\/x∈((b4,Bl 40 [.slice none 0 0])::ent none 3 []).map (·.1))->x=l\/x=b4:=fun x h=>h.imp id fun h=>by simpa[ent]using h
  have E06:Ext [] w0 w6:=(((hw03.trans hx2).then hxg fun x h => .inr (by rcases hM2 x (hSg x h)with h|h <;> omega)).then hx5w fun x h => .inr (by rw[qaa.1 h];exact ho5)).then hx6 fun x h => .inr (by rw[qaa.1 h];omega)
  have hD6:w6.heap[Db]?=some (.deferred (some [])):=by
   rw[hx6.block Db (by have:=Al hD;omega) (by rw[qaa];omega),hx5w.block Db (by have:=Al hD;omega) (by rw[qaa];omega),hxg.block Db (Al hD) fun h=>by rcases hM2 _ (hSg _ h)with h|h <;> omega];exact hD
  have hEne:∀y∈(b4,Bl 40 [.slice a n c])::ent a 3 full,b5≠y.1:=fun y hy e=>by
   have h1:=G.blk y hy
   rcases hgg y.1 (by rw[G.M];exact .inr (qah.2 ⟨y,hy,rfl⟩))with h|h
   .rcases hM2 _ h with h|h
    .exact hb5l (e.trans h)
    .exact hb45 (h ▸ e ▸ U)
   .omega
  have hEge:∀x∈(((b5,Bl 28 [.int .i64 ng.1])::(b4,Bl 40 [.slice a n c])::ent a 3 full).map (·.1)),w0.heap.size<=x/\x≠Db:=fun x h=>by
   obtain⟨y,hy,rfl⟩:=qah.1 h
   rcases qac.1 hy with rfl|hy
   .exact⟨ho5,by dsimp only;omega⟩
   .refine⟨(G.blk y hy).2.1,fun e=>?_⟩;have h1:=hEnt y hy;rw[e,hD6]at h1
    rcases qac.1 hy with rfl|hy
    .cases h1
    .cases ha:a with
     |none=>rw[ha]at hy;cases hy
     |some q=>rw[ha]at hy;rw[qaa.1 hy]at h1;cases h1
  have H:=Ctx.startL (L:=(b5,Bl 28 [.int .i64 ng.1])::(b4,Bl 40 [.slice a n c])::ent a 3 full) (w:=w6) (fun y hy=>by
   rcases qac.1 hy with rfl|hy
   .exact hb56
   .exact hEnt y hy) (qbh.2 ⟨hEne,G.nd⟩)
  have hnn:n=ng.2.length:=by have:=G.os.num;exact this
  have hDn:Db∉(((b5,Bl 28 [.int .i64 ng.1])::(b4,Bl 40 [.slice a n c])::ent a 3 full).map (·.1)):=fun h=>(hEge Db h).2 rfl;refine AE (Aa (Ar (Ad (AH EY U H at0 U (Be U U (qA (Av _ U ?_ ?_)))))))
  .intro hB;replace hB:=Bv hB;rw[if_pos hB]at hwt;refine BV [([0],1),([],2)] (fun z=>z.heap[b5]?=some (Bl 28 [.int .i64 ng.1])) [2] mixed (H.drew.get at0) (AD U U ?_);refine BC EY U (fun _ hx=>(by rw[Aq hx];rfl)) ?_;refine AV ?_;replace H:=H.drew;refine Bf (.slice _ _ _) Sf U U U H at1 (by(simp;done)) ?_;rintro w H;refine Ab (Bb (H.get at0) (AD U U ?_));refine AV (Bf (.int _ _) FZ U U U H at0 (by(simp;done)) ?_);rintro w H;refine Ab (CQ U (B4 (A6 (Ao (Hy U U U IQ EY (Lt H hD6 hDn U fun wF hxF hkF=>?_))))));exact⟨_,_,_,_,_,_,hkF _ _ _ (H.get at1),hkF _ _ _ (H.get at0),none,0,by rw[hwt];rfl,by rw[hwt];exact Rd.nil,by rw[hwt];exact .inl rfl,by rw[hwt];exact qae _,(E06.then H.ext fun x h => .inr (hEge x h).1).then hxF fun x h => .inr (by rw[qaa.1 h];omega)⟩
  .intro hB;replace hB:=Bw hB;have hB':ng.1=0:=by simpa using hB
   rw[if_neg (by simpa using hB)]at hwt;have O9:OS a n c 1 full ((ng.2.map (·.1)).map iv):=by rw[qbi];exact G.os
   refine Ap (Aa (Ad (AH IQ U H at1 U (Aj qB (Ajh (t:=3) O9 (fun y hy=>H.blk y (qaj _ (qaj _ hy))) (by rw[qai];omega)) U ?_))));rintro v w7 ⟨rfl,full',hf7,O7,hx7⟩;have H7:Ctx w6 _ w7 ((b5,Bl 28 [.int .i64 ng.1])::(b4,Bl 40 [.slice a n c])::ent a 3 full'):=H.sorted hf7 hx7 (fun y hy=>(qbh.1 G.nd).1 y hy) (fun y hy=>hEne y (qaj _ hy)) rfl;replace H:=H7;refine qA (Ad (AH IQ U H at1 U (Bf (.slice _ _ _) Sf U U U H at1 (by(simp;done)) ?_)));rintro w H;refine Bf (.int _ _) FZ U U U H at0 (by(simp;done)) ?_;rintro w H;refine qA (A6 ?_);have hs9:(Jh (ng.2.map (·.1))).length=n:=by rw[qcu,qai,hnn]
   refine Hy U U U IQ EY (Lt H hD6 hDn U fun wF hxF hkF=>?_);refine⟨_,_,_,_,_,_,hkF _ _ _ (H.get at1),hkF _ _ _ (H.get at0),a,c,by rw[hwt,hs9],?_,?_,?_,(E06.then H.ext fun x h => .inr (hEge x h).1).then hxF fun x h => .inr (by rw[qaa.1 h];omega)⟩
   .rw[hwt]
    exact OS.rd1 (t:=3) (f:=iv) O7 fun y hy=>by
     have h1:=H.blk y (qaj _ (qaj _ hy))
     cases ha:a with
     |none=>rw[ha]at hy;cases hy
     |some q =>
      rw[ha]at hy;rw[qaa.1 hy]at h1 |-;exact hkF _ _ _ h1
   .rw[hwt]
    cases ha:a with
    |none =>
     left;have h8:=O7.none' ha;have h9:=O7.le;exact qa4 (by rw[hs9];omega)
    |some q =>
     right;have h8:=(hEge q.block (by rw[ha];simp[ent])).1;obtain⟨qb,qo,qs⟩:=q;exact h8
   .rw[hwt,hs9];exact O7.le
def prI(x:It):Pr:=(x.key,x.val)
def MO(kf:Byt)(i:Bool)(l:List It):List Pr:=if i=true then[]else(l.filter fun x=>decide (0<=DU x.key kf)).map prI
def Lw(kf:Byt)(v:List Nd):List Pr:=v.flatMap fun x=>MO kf x.2.1 x.2.2
def XK(kt:Byt)(L:List Pr):List Pr:=if kt=[]then L else L.takeWhile fun p=>decide (DU p.1 kt<0)
def Ol(A:Dev)(fr sz:Nat)(root:Int)(kf kt:Byt):Int × List Pr :=
 if Ij sz root≠0 then(1,[])else if(Eu A fr sz root).1≠0 then((Eu A fr sz root).1,[])else(0,XK kt (Lw kf (Eu A fr sz root).2))
def Gz(m:Im):List Value:=[.slice m.ka m.it.key.length m.kc,.slice m.va m.it.val.length m.vc]
theorem Gl(m:Im):∀v∈Gz m,Bh v=true:=fun v hv=>by
 simp only[Gz,qac,qam,or_false]at hv
 rcases hv with rfl|rfl <;> rfl
structure Prs(w:World)(M:Mut)(a:Option Addr)(n c:Nat)(L:List Pr):Prop where
 ex:∃ps:List Im,Rd w a 2 Gz ps/\(ps=[]\/¬M (adr a).block)/\ps.map (fun m=>prI m.it)=L/\∀m∈ps,m.Ok w M
 num:n=L.length
 le:n<=c
theorem Rdx.read{w w':World}{M:Mut}{a:Option Addr}{l:Byt}{S:List Nat}(X:Rdx w M a l)(hx:Ext S w w')(hS:∀x∈S,M x):Rd w' a 1 B8 l:=by
 obtain⟨R,hn⟩:=X
 rcases hn with rfl|hn
 .exact Rd.nil
 .exact R.ext hx fun h=>hn (hS _ h)
theorem ZI{kf:Byt}{i:Bool}{l:List It}{k:Nat}{x:It}(h:l[k]?=some x):MO kf i (l.take (k+1))=MO kf i (l.take k)++if(decide (i=false) && decide (0<=DU x.key kf))=true then[prI x]else[]:=by
 unfold MO
 cases i with
 |true=>simp
 |false =>
  simp only[qdn,if_false,decide_true,qea,qaq];rw[Bp h,qbn,qay]
  congr 1
  by_cases hc:0<=DU x.key kf
  .rw[if_pos hc,qbk,qal hc];rfl
  .rw[if_neg hc,qbk,qag hc];rfl
theorem Wc{α:Type}{p:α->Bool}:∀{L:List α} {i:Nat},(∀(j:Nat) (x:α),j<i->L[j]?=some x->p x=true)->(∀x,L[i]?=some x->p x=false)->L.takeWhile p=L.take i
 | [],i,_,_=>by simp
 |x::L,0,_,h=>by rw[qc4,h x rfl];rfl
 |x::L,i+1,h1,h2=>by
  rw[qc4,h1 0 x (by omega) rfl,qeh];simp only[if_true];rw[Wc (i:=i) (fun j y hj hy=>h1 (j+1) y (by omega) (by simpa using hy)) fun y hy=>h2 y (by simpa using hy)]
theorem Aji{wx z:World}{Mx:Mut}{w0 w2:World}{S':List Nat}{ps:List Im}(hok:∀m∈ps,m.Ok wx (MZ Mx (Old w2)))(hx:Ext S' wx z)(hS:∀x∈S',Mx x\/x<w2.heap.size)(hle:w0.heap.size<=w2.heap.size):∀m∈ps,m.Ok z (Old w0):=fun m hm =>
 (hok m hm).turn ⟨⟨S',fun x h=>hS x h,hx⟩,fun x h => .inl (.inr (qau h hle))⟩
structure SJ(w0:World)(bt bd bp ba fr:Nat)(A:Dev)(P:List Nat)(F:Mut)(b l:Nat)(lo:Loop)(b6:Nat)(o6:Obj)(Z:Mut)(kf:Byt)(v:List Nd)(M:Mut)(w:World)(a:Option Addr)(n c:Nat)(full:List Value)(ps:List Im):Prop where
 G:GJ w0 bt bd bp ba fr A P F 36 68 2 b l lo (ps.flatMap Gz) M w a n c full
 x0:Ext [] w0 w
 prs:ps.map (fun m=>prI m.it)=Lw kf v
 ok:∀m∈ps,m.Ok w (MZ M Z)
 h6:w.heap[b6]?=some o6
 n6:¬M b6
theorem SJ.ext{w0 w w':World}{bt bd bp ba fr:Nat}{A:Dev}{P:List Nat}{F:Mut}{b l:Nat}{lo:Loop}{b6:Nat}{o6:Obj}{Z:Mut}{kf:Byt}{v:List Nd}{M:Mut}{a:Option Addr}{n c:Nat}{full:List Value}{ps:List Im}(S:SJ w0 bt bd bp ba fr A P F b l lo b6 o6 Z kf v M w a n c full ps)(hx:Ext [] w w'):SJ w0 bt bd bp ba fr A P F b l lo b6 o6 Z kf v M w' a n c full ps :=
 ⟨S.G.ext hx,S.x0.trans hx,S.prs,fun m hm=>(S.ok m hm).call hx,by rw[hx.block b6 (Al S.h6) (by simp)];exact S.h6,S.n6⟩
theorem Ajj{fr:Nat}{w:World}{bt bd bp ba:Nat}{A:Dev}{P:List Nat}{F:Mut}(T:Tx w bt bd bp ba fr A P F [])(root:Int)(fa ta:Option Addr)(fc tc fn' tn:Nat)(kf kt:Byt)(Rf:Rd w fa 1 B8 kf)(hfn:kf.length=fn')(Rt:Rd w ta 1 B8 kt)(htn:kt.length=tn){mx:Nat}(hfew:Few A mx)(hmx:mx<=1000000000)(hN:(Eu A fr P.length root).2.length<=100000)(hfr:fr<=5000:=by decide)(hr1: -9223372036854775808<=root:=by omega)(hr2:root<=9223372036854775807:=by omega):
  Ret prog 100 #[ptr bt,.int .i64 root,.slice fa fn' fc,.slice ta tn tc] w fun v w'=>∃a c,v=.tuple #[.slice a (Ol A fr P.length root kf kt).2.length c,.int .i64 (Ol A fr P.length root kf kt).1]/\Prs w' (Old w) a (Ol A fr P.length root kf kt).2.length c (Ol A fr P.length root kf kt).2/\Ext [] w w':=by
 subst hfn htn;obtain⟨w0,rfl⟩:=qD w;obtain⟨wt,hwt⟩:=qD (Ol A fr P.length root kf kt);rw[<-hwt];unfold Ol at hwt;have h0:=T.mlt;have H:=Ctx.start w0 [];refine JK (fn:=f100) func100 U [.pointer (some ⟨bt,0,none⟩),.int .i64 root,.slice fa kf.length fc,.slice ta kt.length tc] U ?_;refine Ad (Cu _ (.slice _ _ _) U U H ?_);rintro b6 w - H;refine Bi zc_36 H ?_;rintro b8 w - H;refine Bi WW H ?_;rintro b9 w - H;refine qA (Ar (Ad (An U (Ae U (Aj qB (Q8 (T.call H.ext) root) U ?_)))));rintro v w2 ⟨rfl,rfl⟩;refine Ac U (qA (Ad (Ae U (Be U U (qA (Av _ U ?_ ?_))))))
 .intro hA;replace hA:=Bv hA;rw[if_pos hA]at hwt;have he:Ij P.length root=1:=by unfold Ij at hA |-;split <;> simp_all
  rw[he];refine Ad (Ae U (Bf (.slice _ _ _) Se U U U H at1 (by decide) ?_));rintro w H;refine Bf (.int _ _) FZ U U U H at0 (by decide) ?_;rintro w H;refine qA (A6 (Ao (Hy U U U Il EY ?_)));exact⟨_,_,_,_,_,_,H.get at1,H.get at0,none,0,by rw[hwt];rfl,by rw[hwt];exact⟨⟨[],Rd.nil,.inl rfl,rfl,fun m h=>by cases h⟩,rfl,qae _⟩,H.ext⟩
 .intro hA;replace hA:=Bw hA;rw[if_neg (by simpa using hA)]at hwt;obtain⟨ng,hng⟩:=qD (Eu A fr P.length root);rw[<-hng]at hwt hN;refine Ap (Aa (Ar (Ad (An U (Ae U ?_)))));have hb8w:=H.lt (k:=1) rfl;have hb9w:=H.lt (k:=0) rfl;have hb6w:=H.lt (k:=2) rfl;refine Aj qB (XI bt b9 root _) U ?_;rintro v w3 ⟨x3,x4,x5,rfl,⟨t4,hx4⟩,⟨t3,hx3⟩,⟨t5,hx5⟩,n4,n3,n5,hxn⟩;replace H:=H.call hxn;refine qA (AB (HM U qB ?_));intro fn tmps hts htm Db l w2 hDb hl hx2 hD hrec;obtain⟨lo,hlo,hrec'⟩:∃lo,lo=_/\w2.heap[l]?=some (.loop lo):=⟨_,rfl,hrec⟩;have hw03:=H.ext;have hs03:=hw03.size;have hs32:=hx2.size;have up2:∀{b:Nat} {o:Obj},w3.heap[b]?=some o->w2.heap[b]?=some o:=fun{b o} g=>by rw[hx2.block b (Al g) (by simp)];exact g
  have hb8:=H.get at1;have hb9:=H.get at0;have hb6:=H.get at2;have hb89:=H.ne at1 at0 (by decide);have hb68:=H.ne at2 at1 (by decide);have ho8:w0.heap.size<=b8:=(H.own _ (qaj _ (qaf ..))).elim (fun h=>by cases h) id;have ho9:w0.heap.size<=b9:=(H.own _ (qaf ..)).elim (fun h=>by cases h) id;have hl8:=Al hb8;have hl9:=Al hb9;have hl6:=Al hb6;have hxl4:=Al hx4;have hxl3:=Al hx3;have hxl5:=Al hx5;have hN':(Eu A fr P.length root).2.length<=100000:=by rw[<-hng];exact hN
  have JO:JOk bt bd bp ba fr A P F (Old w2) 100000 l (fun v M w=>v.length<=100000/\∃a n c full ps,n<=65535*v.length/\SJ w0 bt bd bp ba fr A P F b8 l lo b6 (Bl 24 [.slice fa kf.length fc]) (Old w2) kf v M w a n c full ps):=by
   refine⟨fun{v M w} h=>?_,fun{v M w w'} h hx=>?_,fun{v M w} h=>?_,?_⟩
   .obtain⟨-,a,n,c,full,ps,-,S⟩:=h;exact S.G.lt
   .obtain⟨hv,a,n,c,full,ps,hn,S⟩:=h;exact⟨hv,a,n,c,full,ps,hn,S.ext hx⟩
   .obtain⟨-,a,n,c,full,ps,-,S⟩:=h;exact S.G.tx
   .rintro v M wJ page i a7 n7 c7 L7 ⟨hvl,a,n,c,full,ps,hnv,S⟩ hv I hL hLb hpg;have G:=S.G;have hloop:=G.loop;obtain⟨ms,R7,hR7,hl7,hok7⟩:=I.ex;have hn7:=I.num;have hml7:ms.length=n7:=by rw[hn7,<-hl7,qai]
    subst hlo;refine KW hloop U (IP _ (NQ hts htm) ?_);have H:=Ctx.start wJ [];refine Au (Bi Co H ?_);rintro b12 w - H;refine Bo Bg U U U (by simp[Bh]) H at0 U ?_;rintro w H;refine Ab ?_;have hxa:=H.ext;have SA:=S.ext hxa;have GA:=SA.G;refine Li GA.loop U ?_;intro wR lo2 hxR hlR hlo2;have hb12:=H.get at0;have ho12:wJ.heap.size<=b12:=(H.own _ (qaf ..)).elim (fun h=>by cases h) id
    have hb12R:wR.heap[b12]?=some (NBl i a7 n7 c7):=by
     rw[hxR.block b12 (Al hb12) (by rw[qaa];have:=Al hloop;omega)];exact hb12
    have n12:b12∉((b8,Bl 36 [.slice a n c])::ent a 68 full).map (·.1):=fun h=>by
     obtain⟨y,hy,he⟩:=qah.1 h;have:=Al (G.blk y hy).1;omega
    have hb6R:wR.heap[b6]?=some (Bl 24 [.slice fa kf.length fc]):=by
     rw[hxR.block b6 (Al SA.h6) (by rw[qaa];omega)];exact SA.h6
    have n6:b6∉((b8,Bl 36 [.slice a n c])::ent a 68 full).map (·.1):=fun h=>S.n6 (by rw[G.M];exact .inr h);have H:=GA.body hxR
    have hMl:∀x∈l::((b8,Bl 36 [.slice a n c])::ent a 68 full).map (·.1),M x/\w0.heap.size<=x:=fun x h=>by
     rw[G.M]
     rcases qac.1 h with rfl|h
     .exact⟨.inl rfl,by omega⟩
     .obtain⟨y,hy,he⟩:=qah.1 h;exact⟨.inr h,by rw[<-he];exact(G.blk y hy).2.1⟩
    have hxw:∀{z:World},Ext (((b8,Bl 36 [.slice a n c])::ent a 68 full).map (·.1)) wR z->Ext (l::((b8,Bl 36 [.slice a n c])::ent a 68 full).map (·.1)) wJ z:=fun{z} hz=>((hxa.mono (by simp)).trans (hxR.mono (fun x h=>by rw[qaa.1 h];exact qaf ..))).trans (hz.mono fun x h=>qaj _ h);have k12:∀{z:World},Ext (((b8,Bl 36 [.slice a n c])::ent a 68 full).map (·.1)) wR z->z.heap[b12]?=some (NBl i a7 n7 c7):=fun{z} hz=>by rw[hz.block b12 (Al hb12R) n12];exact hb12R
    have k6:∀{z:World},Ext (((b8,Bl 36 [.slice a n c])::ent a 68 full).map (·.1)) wR z->z.heap[b6]?=some (Bl 24 [.slice fa kf.length fc]):=fun{z} hz=>by rw[hz.block b6 (Al hb6R) n6];exact hb6R
    have kR:∀{z:World},Ext (((b8,Bl 36 [.slice a n c])::ent a 68 full).map (·.1)) wR z->Rd z a7 3 Im.enc ms:=fun{z} hz=>by
     rcases hR7 with h|h
     .rw[h];exact Rd.nil
     .exact R7.ext (hxw hz) fun h5=>h (.inl (hMl _ h5).1)
    have kF:∀{z:World},Ext (((b8,Bl 36 [.slice a n c])::ent a 68 full).map (·.1)) wR z->Rd z fa 1 B8 kf:=fun{z} hz=>Rf.ext0 (S.x0.then (hxw hz) fun x h => .inr (hMl x h).2);refine AB (Ad (Af Br U (Bd BT U ((by rw[Aq (k12 H.ext)];rfl)) ?_)));refine AO Bu U (Ae U (qA (AB (B6 18014396362014720 (α:=Nat × Option Addr × Nat × Nat × List Value × List Im) (fun s=>[(31,.int .i64 (s.1:Int))]) (fun s w'=>s.1<=n7/\s.2.2.1<=n+s.1/\Ctx wR (((b8,Bl 36 [.slice a n c])::ent a 68 full).map (·.1)) w' ((b8,Bl 36 [.slice s.2.1 s.2.2.1 s.2.2.2.1])::ent s.2.1 68 s.2.2.2.2.1)/\OS s.2.1 s.2.2.1 s.2.2.2.1 2 s.2.2.2.2.1 (s.2.2.2.2.2.flatMap Gz)/\s.2.2.2.2.2.map (fun m=>prI m.it)=Lw kf v++MO kf i (L7.take s.1)/\∀m∈s.2.2.2.2.2,m.Ok wJ (MZ M (Old w2))) (fun s=>n7 - s.1) (0,a,n,c,full,ps) U ?_ ?_ ?_))))
    .exact⟨rfl,trivial⟩
    .exact⟨qak _,qae _,H,G.os,by dsimp only;rw[S.prs];unfold MO;simp,S.ok⟩
    .rintro⟨k,a2,n2,c2,full2,ps2⟩ j w' ⟨hk,hn2,H2,O2,hps2,hok2⟩;dsimp only at hk hn2 H2 O2 hps2 hok2;dsimp only;have H:=H2;have Rk:=kR H.ext;refine Ad (Bj U U (qA (Ar (Av _ U ?_ ?_))))
     .intro hB;replace hB:=AR hB;obtain⟨x,hx1⟩:=AP (l:=ms) (i:=k);have hxL:=Im.at hl7 hx1;have hxo:=hok7 x (qad hx1);have hxb:=hLb x.it (qad hxL);have hsn:=ZI (kf:=kf) (i:=i) hxL;refine Ap (Aa (Ar (AB (Ad (AY Rk Bu Bn U U ?_)))));refine EN _ Dq Bn U U (Rk.row hx1 U) (Bi C2 H ?_);rintro b14 w - H;refine Bo Bn U U U (by exact Im.oneE _) H at0 U ?_;rintro w H;refine qA ?_;obtain⟨wq,rfl⟩:=qD w;have Rx:=hxo.k.read (hxw H.ext) fun z hz => .inl (hMl z hz).1;refine Ad (BG (α:=Unit) 35150012350464 (fun _=>[(44,.bool (decide (i=false) && decide (0<=DU x.it.key kf)))]) (fun _ w'=>wq=w') U ?_ ?_)
      .refine Af Dy U (Bd Ge U ((by rw[Aq (k12 H.ext)];rfl)) ?_);refine Cl U (AF U (AQ 38 U ?_ ?_))
       .intro h1;replace h1:=C8 h1;refine Af FF U (AH B1 U H at0 U (Bd B1 U ((by rw[Aq (k6 H.ext)];rfl)) ?_));refine Aj qB (IZ x.ka fa x.kc fc _ _ x.it.key kf Rx (kF H.ext) U U) U ?_;rintro v5 w5 ⟨rfl,rfl⟩;refine Ie U U (AN U (.bool _) U (Ab ?_));exact⟨rfl,(),rfl,⟨qab Value.bool (by(rw[h1];rfl)),trivial⟩,rfl⟩
       .intro h2;replace h2:=CA h2;refine Ag U (Ag U (Ag U (Ag U (Ag U (AM U (.bool _) U (Ab ?_))))));exact⟨rfl,(),rfl,⟨qab Value.bool (by(rw[h2];rfl)),trivial⟩,rfl⟩
      rintro - j44 w rfl;refine Av _ U ?_ ?_
      .intro hC;rw[if_pos hC]at hsn;refine Au (AH Il U H at1 U (Af FF U (AH B1 U H at0 U (Af Ld U (AH B1 U H at0 U (B5 [.slice x.ka x.it.key.length x.kc,.slice x.va x.it.val.length x.vc] U1 Fd ?_))))));refine BI [.slice x.ka x.it.key.length x.kc,.slice x.va x.it.val.length x.vc] (.agg _) Cb CR Fd U U U U H ?_;rintro b51 w - H;refine BL (L:=[_,_]) Cb Cb CR NC Fd U U U H O2 U (Gl x) ?_;rintro a52 c52 f52 w H O52;refine Bf (.slice _ _ _) Se U U U H at1 (by(simp;done)) ?_;rintro w H;refine Ab (AE (Aa (Au (Ay U U ?_))));refine Ae U (qA ?_)
       refine⟨(k+1,a52,n2+1,c52,f52,ps2++[x]),rfl,⟨rfl,trivial⟩,⟨by dsimp only;omega,by dsimp only;omega,H.tail,by dsimp only;rw[qbc,qb0];exact O52,by dsimp only;rw[qay,hsn,hps2,qa1];rfl,fun m hm=>?_⟩,by dsimp only;omega⟩;dsimp only at hm
       rcases qat.1 hm with hm|hm
       .exact hok2 m hm
       .rw[qaa.1 hm];exact hxo
      .intro hC;rw[if_neg (by rw[hC];simp),qa3]at hsn;refine Ap (AE (Aa (Au (Ay U U ?_))));refine Ae U (qA ?_);exact⟨(k+1,a2,n2,c2,full2,ps2),rfl,⟨rfl,trivial⟩,⟨by dsimp only;omega,by dsimp only;omega,H.tail,O2,by dsimp only;rw[hsn];exact hps2,hok2⟩,by dsimp only;omega⟩
     .intro hB;replace hB:=AU hB;have hii:k=n7:=by omega
      rw[qa6 (by omega)]at hps2;refine B2 (Aw (Aw (AZ (AE ?_))))
      have hlE:w'.heap[l]?=some (.loop lo2):=by
       rw[H.ext.block l (Al hlR) fun h=>?_]
       .exact hlR
       .obtain⟨y,hy,he⟩:=qah.1 h;exact(G.blk y hy).2.2 he
      refine IG hlE hlo2 U U ?_;intro wF hxF hlF
      obtain⟨G9,g9⟩:=GA.next h0 (by omega) hxR H O2 hxF hlF
      have gg9:=(Grown.call0 hxa).trans g9;obtain⟨⟨S9,hS9,hx9⟩,-⟩:=id g9;refine⟨rfl,_,⟨by simp;omega,a2,n2,c2,full2,ps2,by rw[qan,qbu];omega,G9,SA.x0.then hx9 fun x h => .inr ?_,?_,fun m hm=>(hok2 m hm).turn (gg9.or _),gg9.keep S.h6 S.n6,fun h=>(gg9.2 b6 h).elim S.n6 fun h5=>by have:=Al S.h6;omega⟩,gg9⟩
      .have h5:=hS9 x h;rw[G.M]at h5
       rcases h5 with h5|h5
       .omega
       .obtain⟨y,hy,he⟩:=qah.1 h5;have:=(G.blk y hy).2.1;omega
      .rw[hps2];unfold Lw;simp
  have hJ0:(fun(v:List Nd) (M:Mut) (w:World)=>v.length<=100000/\∃a n c full ps,n<=65535*v.length/\SJ w0 bt bd bp ba fr A P F b8 l lo b6 (Bl 24 [.slice fa kf.length fc]) (Old w2) kf v M w a n c full ps) [] (fun x=>x=l\/x∈((b8,Bl 36 [.slice none 0 0])::ent none 68 []).map (·.1)) w2:=by
   refine⟨by simp,none,0,0,[],[],qak _,⟨rfl,T.call (hw03.trans hx2),hrec',fun y hy=>?_,qeo ..,OS.nil⟩,hw03.trans hx2,rfl,(fun m hm=>by cases hm),up2 hb6,fun h=>?_⟩
   .rw[qaa.1 hy];exact⟨up2 hb8,ho8,by dsimp only;omega⟩
   .rcases h with h|h
    .omega
    .exact hb68 (by simpa[ent]using h)
  have hnM:∀x,x≠l->x≠b8->¬(x=l\/x∈((b8,Bl 36 [.slice none 0 0])::ent none 68 []).map (·.1)):=fun x h1 h2 h=>by
   rcases h with h|h
   .exact h1 h
   .exact h2 (by simpa[ent]using h)
  refine Ret.mono (UR JO hfr hfew hmx hJ0 (fun x h=>h) (up2 hx4) (up2 hx3) (up2 hx5) (up2 hb9) (hnM _ (by omega) (by omega)) (hnM _ (by omega) (by omega)) (hnM _ (by omega) (by omega)) (hnM _ (by omega) (Ne.symm hb89)) hr1 hr2 hN') ?_;rintro v w4 ⟨wx,Mx,⟨-,a,n,c,full,ps,hnv,S⟩,gx,hx9w,he9⟩;rw[<-hng]at S he9 hnv;have G:=S.G;have hloop:=G.loop;have hb9l:b9≠l:=by omega
  have hl1:w4.heap[l]?=some (.loop lo):=by rw[hx9w.block l (Al hloop) (by simpa using fun h=>hb9l h.symm)];exact hloop
  refine⟨_,hl1,by subst hlo;exact(fun h=>by cases h),HR (by rw[hlo]) ?_⟩;have hx6:=Ext.setB w4 l (.loop { lo with state := .exhausted });generalize w4.putObj l (.loop { lo with state := .exhausted })=w6 at hx6 |-
  have hEnt:∀y∈(b8,Bl 36 [.slice a n c])::ent a 68 full,w6.heap[y.1]?=some y.2:=fun y hy=>by
   have h1:=G.blk y hy
   have h2:y.1≠b9:=fun e=>by
    rcases gx.2 y.1 (by rw[G.M];exact .inr (qah.2 ⟨y,hy,rfl⟩))with h|h
    .exact hnM y.1 h1.2.2 (fun e4=>hb89 (e4 ▸ e)) h
    .omega
   rw[hx6.block y.1 (qau (Al h1.1) hx9w.size) (by simpa using h1.2.2),hx9w.block y.1 (Al h1.1) (by simpa using h2)];exact h1.1
  have hb96:w6.heap[b9]?=some (Bl 28 [.int .i64 ng.1]):=by
   rw[hx6.block b9 (Al he9) (by simpa using hb9l)];exact he9
  obtain⟨⟨Sg,hSg,hxg⟩,hgg⟩:=gx;have hsx:=hxg.size;have hs45:=hx9w.size;have hs46:=hx6.size;have hM2:∀x,(x=l\/x∈((b8,Bl 36 [.slice none 0 0])::ent none 68 []).map (·.1))->x=l\/x=b8:=fun x h=>h.imp id fun h=>by simpa[ent]using h
  have E46:Ext [b9,l] wx w6:=(hx9w.mono (by simp)).trans (hx6.mono (by simp));have E06:Ext [] w0 w6:=S.x0.then E46 fun x h => .inr (by simp only[qac,qam,or_false]at h;rcases h with rfl|rfl <;> omega)
  have hD6:w6.heap[Db]?=some (.deferred (some [])):=by
   rw[hx6.block Db (by have:=Al hD;omega) (by rw[qaa];omega),hx9w.block Db (by have:=Al hD;omega) (by rw[qaa];omega),hxg.block Db (Al hD) fun h=>by rcases hM2 _ (hSg _ h)with h|h <;> omega];exact hD
  have n9:¬Mx b9:=fun h=>(hgg b9 h).elim (hnM _ hb9l (Ne.symm hb89)) fun h=>by omega
  have hEne:∀y∈(b8,Bl 36 [.slice a n c])::ent a 68 full,b9≠y.1:=fun y hy e=>n9 (by rw[G.M];exact .inr (qah.2 ⟨y,hy,e.symm⟩))
  have hEge:∀x∈(((b9,Bl 28 [.int .i64 ng.1])::(b8,Bl 36 [.slice a n c])::ent a 68 full).map (·.1)),w0.heap.size<=x/\x≠Db:=fun x h=>by
   obtain⟨y,hy,rfl⟩:=qah.1 h
   rcases qac.1 hy with rfl|hy
   .exact⟨ho9,by dsimp only;omega⟩
   .refine⟨(G.blk y hy).2.1,fun e=>?_⟩;have h1:=hEnt y hy;rw[e,hD6]at h1
    rcases qac.1 hy with rfl|hy
    .cases h1
    .cases ha:a with
     |none=>rw[ha]at hy;cases hy
     |some q=>rw[ha]at hy;rw[qaa.1 hy]at h1;cases h1
  have H:=Ctx.startL (L:=(b9,Bl 28 [.int .i64 ng.1])::(b8,Bl 36 [.slice a n c])::ent a 68 full) (w:=w6) (fun y hy=>by
   rcases qac.1 hy with rfl|hy
   .exact hb96
   .exact hEnt y hy) (qbh.2 ⟨hEne,G.nd⟩)
  have hDn:Db∉(((b9,Bl 28 [.int .i64 ng.1])::(b8,Bl 36 [.slice a n c])::ent a 68 full).map (·.1)):=fun h=>(hEge Db h).2 rfl;have hnp:n=ps.length:=G.os.numN (fun _ _=>rfl) (by decide)
  -- what was read lives on
  have hlive:∀{z:World},Ext (((b9,Bl 28 [.int .i64 ng.1])::(b8,Bl 36 [.slice a n c])::ent a 68 full).map (·.1)) w6 z->∃S',Ext S' wx z/\∀x∈S',Mx x\/x<w2.heap.size:=fun{z} hz=>by
   refine⟨_,(E46.mono (S':=b9::l::((b9,Bl 28 [.int .i64 ng.1])::(b8,Bl 36 [.slice a n c])::ent a 68 full).map (·.1)) (by simp)).trans (hz.mono fun x h=>qaj _ (qaj _ h)),fun x h=>?_⟩
   rcases qac.1 h with rfl|h
   .exact .inr (Al (up2 hb9))
   .rcases qac.1 h with rfl|h
    .exact .inl (by rw[G.M];exact .inl rfl)
    .rcases qac.1 h with rfl|h
     .exact .inr (Al (up2 hb9))
     .exact .inl (by rw[G.M];exact .inr h)
  have hDlt:Db<w2.heap.size:=by have:=Al hrec';omega
  have hs02:w0.heap.size<=w2.heap.size:=by omega
  refine AE (Aa (Ar (Ad (AH EY U H at0 U (Be U U (qA (Av _ U ?_ ?_)))))))
  .intro hB;replace hB:=Bv hB;rw[if_pos hB]at hwt;refine BV [([0],1),([],2)] (fun z=>z.heap[b9]?=some (Bl 28 [.int .i64 ng.1])) [2] mixed (H.drew.get at0) (AD U U ?_);refine BC EY U (fun _ hx=>(by rw[Aq hx];rfl)) ?_;refine AV ?_;replace H:=H.drew;refine Bf (.slice _ _ _) Se U U U H at1 (by(simp;done)) ?_;rintro w H;refine Ab (Bb (H.get at0) (AD U U ?_));refine AV (Bf (.int _ _) FZ U U U H at0 (by(simp;done)) ?_);rintro w H;refine Ab (CQ U (B4 (A6 (Ao (Hy U U U Il EY (Lt H hD6 hDn U fun wF hxF hkF=>?_))))));exact⟨_,_,_,_,_,_,hkF _ _ _ (H.get at1),hkF _ _ _ (H.get at0),none,0,by rw[hwt];rfl,by rw[hwt];exact⟨⟨[],Rd.nil,.inl rfl,rfl,fun m h=>by cases h⟩,rfl,qae _⟩,(E06.then H.ext fun x h => .inr (hEge x h).1).then hxF fun x h => .inr (by rw[qaa.1 h];omega)⟩
  .intro hB;replace hB:=Bw hB;have hB':ng.1=0:=by simpa using hB
   rw[if_neg (by simpa using hB),<-S.prs]at hwt;obtain⟨PL,hPL⟩:=qD (ps.map fun m=>prI m.it);rw[<-hPL]at hwt;have hnc:=G.os.le;have hPn:PL.length=n:=by rw[hPL,qai,hnp]
   have hres:∀{z wF:World} {i:Nat},Ext (((b9,Bl 28 [.int .i64 ng.1])::(b8,Bl 36 [.slice a n c])::ent a 68 full).map (·.1)) w6 z->(∀y∈ent a 68 full,z.heap[y.1]?=some y.2)->Ext [Db] z wF->(∀(b t:Nat) (l:List Value),z.heap[b]?=some (Bl t l)->wF.heap[b]?=some (Bl t l))->i<=n->Prs wF (Old w0) a i c (PL.take i):=fun{z wF i} hz he hxF hkF hi=>by
    obtain⟨S',hS1,hS2⟩:=hlive hz;have hokF:=Aji S.ok ((hS1.mono (S':=S'++[Db]) fun x h=>qa5 _ h).trans (hxF.mono fun x h=>qax _ h)) (fun x h=>(qat.1 h).elim (hS2 x) fun h => .inr (by rw[qaa.1 h];exact hDlt)) hs02
    have Rz:=OS.rd (t:=68) (w:=wF) G.os (fun y hy=>by
     have h1:=he y hy
     cases ha:a with
     |none=>rw[ha]at hy;cases hy
     |some q =>
      rw[ha]at hy;rw[qaa.1 hy]at h1 |-
      exact hkF _ _ _ h1) (fun _ _=>rfl) (by decide)
    refine⟨⟨ps.take i,Rz.take i,?_,by rw[List.map_take,hPL],fun m hm=>hokF m (qbq hm)⟩,by rw[qa0];omega,qaw hi G.os.le⟩
    cases ha:a with
    |none =>
     left;have h8:=G.os.none' ha;have h9:=G.os.le;exact qa4 (by rw[qa0];omega)
    |some q =>
     right;have h8:=(hEge q.block (by rw[ha];simp[ent])).1;obtain⟨qb,qo,qs⟩:=q;exact Nat.not_lt.2 h8
   refine Ap (Aa (Ar (Ad (AH Il U H at1 U (AO Cb U (Ae U (qA (AB (B6 302230878442904990351360 (α:=Nat) (fun i=>[(59,.int .i64 (i:Int))]) (fun i w'=>i<=n/\Ctx w6 (((b9,Bl 28 [.int .i64 ng.1])::(b8,Bl 36 [.slice a n c])::ent a 68 full).map (·.1)) w' ((b9,Bl 28 [.int .i64 ng.1])::(b8,Bl 36 [.slice a n c])::ent a 68 full)/\(kt=[]\/∀(j:Nat) (p:Pr),j<i->PL[j]?=some p->DU p.1 kt<0)) (fun i=>n - i) 0 U ?_ ?_ ?_)))))))))
   .exact⟨rfl,trivial⟩
   .exact⟨qak _,H,.inr fun j p h=>absurd h (qc3 _)⟩
   .rintro i j w ⟨hi,H5,hlow⟩;have H:=H5;have Rp:=OS.rd (t:=68) (w:=w) G.os (fun y hy=>H.blk y (qaj _ (qaj _ hy))) (fun _ _=>rfl) (by decide);refine Ad (Bj U U (qA (Ar (Av _ U ?_ ?_))))
    .intro hC;replace hC:=AR hC;obtain⟨x,hx1⟩:=AP (l:=ps) (i:=i);have hxP:PL[i]?=some (prI x.it):=by rw[hPL,qas,hx1];rfl
     refine Ap (Aa (Ar (AB (Ad (Ae U (AY Rp Cb CR U U ?_))))));refine EN _ Aa5 CR U U (Rp.row hx1 U) (Bi Fd H ?_);rintro b16 w - H;refine Ac U (Bo CR U U U (by exact Gl _) H at0 U ?_);rintro w H;refine qA ?_;obtain⟨wq,rfl⟩:=qD w;obtain⟨Sx,hSx1,hSx2⟩:=hlive H.ext;have hxo:=Aji S.ok hSx1 hSx2 hs02 x (qad hx1);have Rtw:=Rt.ext0 (E06.then H.ext fun x h => .inr (hEge x h).1);refine Ad (BG (α:=Unit) 18871019187404871303168 (fun _=>[(73,.bool (decide (0<kt.length) && decide (0<=DU x.it.key kt)))]) (fun _ w'=>wq=w') U ?_ ?_)
     .refine Ah U (AO AX U (BZ U U (AF U (AQ 67 U ?_ ?_))))
      .intro h3;replace h3:=AR h3;refine Af Fa U (AH B1 U H at0 U (Ah U (Aj qB (IZ x.ka ta x.kc tc _ _ x.it.key kt hxo.k.1 Rtw U U) U ?_)));rintro v5 w5 ⟨rfl,rfl⟩;refine Ie U U (AN U (.bool _) U (Ab ?_));exact⟨rfl,(),rfl,⟨qab Value.bool (by(rw[qal (show 0<kt.length by omega)]);rfl),trivial⟩,rfl⟩
      .intro h4;replace h4:=AU h4;refine Ag U (Ag U (Ag U (Ag U (Ag U (AM U (.bool _) U (Ab ?_))))));exact⟨rfl,(),rfl,⟨qab Value.bool (by(rw[qag (show ¬0<kt.length by omega)]);rfl),trivial⟩,rfl⟩
     rintro - j73 w rfl;refine Av _ U ?_ ?_
     .intro hE;rw[qao,qaq,qaq]at hE;have hkt:kt≠[]:=qbv.1 hE.1
      have hup:XK kt PL=PL.take i:=by
       unfold XK;rw[if_neg hkt,Wc (i:=i) (fun j p hj hp=>qal ((hlow.resolve_left hkt) j p hj hp)) fun p hp=>?_];rw[hxP]at hp;cases hp;exact qag (by show ¬DU x.it.key kt<0;omega)
      rw[hup]at hwt;refine Ad (AH Il U H at2 U (Ae U (Eg Cb CR U U ?_)));refine Bf (.slice _ _ _) Se U U U H at2 (by(simp;done)) ?_;rintro w H;refine Bf (.int _ _) FZ U U U H at1 (by(simp;done)) ?_;rintro w H;refine qA (A6 (AK (Ao (Ao (AK (Ao (Hy U U U Il EY (Lt H hD6 hDn U fun wF hxF hkF=>?_))))))));have hti:(PL.take i).length=i:=by rw[qa0];omega
      refine⟨_,_,_,_,_,_,hkF _ _ _ (H.get at2),hkF _ _ _ (H.get at1),a,c,by rw[hwt,hti];rfl,?_,(E06.then H.ext fun x h => .inr (hEge x h).1).then hxF fun x h => .inr (by rw[qaa.1 h];omega)⟩;rw[hwt,hti];exact hres H.ext (fun y hy=>H.blk y (qaj _ (qaj _ (qaj _ hy)))) hxF hkF hi
     .intro hE;refine Ap (AE (Aa (Au (Ay U U ?_))));refine Ae U (qA ?_);refine⟨i+1,rfl,⟨rfl,trivial⟩,⟨by omega,H.tail,?_⟩,by omega⟩
      by_cases hkt:kt=[]
      .exact .inl hkt
      .right;rw[qe5]at hE;have hpos:=qbv.2 hkt;have hE2:¬0<=DU x.it.key kt:=hE.elim (fun h=>absurd hpos (qcx h)) qcx;intro j p hj hp
       rcases qbr j i with h3|h3
       .exact(hlow.resolve_left hkt) j p h3 hp
       .obtain rfl:j=i:=by omega
        rw[hxP]at hp;cases hp;show DU x.it.key kt<0;omega
    .intro hC;replace hC:=AU hC;have hii:i=n:=by omega
     have hup:XK kt PL=PL.take n:=by
      rw[qa6 (by omega)];unfold XK
      by_cases hkt:kt=[]
      .rw[if_pos hkt]
      .rw[if_neg hkt,Wc (i:=n) (fun j p hj hp=>qal ((hlow.resolve_left hkt) j p (by omega) hp)) fun p hp=>?_,qa6 (by omega)];have:=(qap.1 hp).1;omega
     rw[hup]at hwt;refine B2 (Aw (Aw (AZ (Aa (Ad (AH Il U H at1 U (Bf (.slice _ _ _) Se U U U H at1 (by(simp;done)) ?_)))))));rintro w H;refine Bf (.int _ _) FZ U U U H at0 (by(simp;done)) ?_;rintro w H;refine qA (A6 (Hy U U U Il EY (Lt H hD6 hDn U fun wF hxF hkF=>?_)));have hti:(PL.take n).length=n:=by rw[qa0];omega
     refine⟨_,_,_,_,_,_,hkF _ _ _ (H.get at1),hkF _ _ _ (H.get at0),a,c,by rw[hwt,hti],?_,(E06.then H.ext fun x h => .inr (hEge x h).1).then hxF fun x h => .inr (by rw[qaa.1 h];omega)⟩;rw[hwt,hti];exact hres H.ext (fun y hy=>H.blk y (qaj _ (qaj _ hy))) hxF hkF (qae _)
structure Wr where
 k:Byt
 v:Byt
 d:Bool
structure Wm where
 ka:Option Addr
 kc:Nat
 va:Option Addr
 vc:Nat
 x:Wr
def CE(m:Wm):List Value:=[.slice m.ka m.x.k.length m.kc,.slice m.va m.x.v.length m.vc,.bool m.x.d]
theorem FV(m:Wm):∀v∈CE m,Bh v=true:=fun v hv=>by
 simp only[CE,qac,qam,or_false]at hv
 rcases hv with rfl|rfl|rfl <;> rfl
structure Wm.Ok(w:World)(M:Mut)(m:Wm):Prop where
 k:Rdx w M m.ka m.x.k
 v:Rdx w M m.va m.x.v
 kc:m.x.k.length<=m.kc
 vc:m.x.v.length<=m.vc
structure Wrs(w:World)(M:Mut)(a:Option Addr)(n c:Nat)(L:List Wr):Prop where
 ex:∃ps:List Wm,Rd w a 3 CE ps/\(ps=[]\/¬M (adr a).block)/\ps.map (·.x)=L/\∀m∈ps,m.Ok w M
 num:n=L.length
 le:n<=c
theorem Wm.Ok.call{w w':World}{M:Mut}{m:Wm}(h:m.Ok w M)(hx:Ext [] w w'):m.Ok w' M:=⟨h.k.call hx,h.v.call hx,h.kc,h.vc⟩
theorem Wm.Ok.turn{w w':World}{M M':Mut}{m:Wm}(h:m.Ok w M)(t:Grown M M' w w'):m.Ok w' M':=⟨h.k.turn t,h.v.turn t,h.kc,h.vc⟩
theorem Wrs.turn{w w':World}{M M':Mut}{a:Option Addr}{n c:Nat}{L:List Wr}(h:Wrs w M a n c L)(t:Grown M M' w w'):Wrs w' M' a n c L:=by
 obtain⟨ps,R,hs,hl,hm⟩:=h.ex;obtain⟨R',hs'⟩:=Rd.turnM R hs (by decide) (fun _ _=>rfl) t;exact⟨⟨ps,R',hs',hl,fun m hx=>(hm m hx).turn t⟩,h.num,h.le⟩
def XL(d:Bool):Nat:=bif d then 1 else 0
def wrB(x:Wr):Byt:=Bq (XL x.d) 1++((Bq x.k.length 2++x.k)++(Bq x.v.length 2++x.v))
def opB(L:List Wr):Byt:=L.flatMap wrB
def Wr.Few(x:Wr):Prop:=x.k.length<=32/\x.v.length<=128
theorem Wd(x:Wr):(wrB x).length=5+x.k.length+x.v.length:=by simp[wrB,Ba];omega
theorem Om:∀{L:List Wr},(∀x∈L,x.Few)->(opB L).length<=165*L.length
 | [],_=>qae _
 |x::L,h=>by
  have h1:=Om (L:=L) fun y hy=>h y (qaj _ hy);have h2:=h x (qaf ..);have h3:=Wd x;unfold opB at h1 |-;rw[qcc,qan,h3,qav];unfold Wr.Few at h2;omega
theorem XM{L:List Wr}{i:Nat}{x:Wr}(h:L[i]?=some x):opB (L.take (i+1))=opB (L.take i)++wrB x:=by
 unfold opB;rw[Bp h,qbc,qb0]
theorem An2(l:List UInt8)(n:Nat):Nb l n 1=l++Bq n 1:=rfl
theorem JS(x y:Byt)(a:Option Addr)(c:Nat)(w:World)(h:x.length<=100000:=by omega)(h2:y.length<=100000:=by omega):Ret prog 84 #[str x,.slice a y.length c] w fun v w'=>v=.int .i64 (((x.length+y.length+4:Nat)):Int)/\w=w':=by
 obtain⟨w0,rfl⟩:=qD w;refine A8 (fn:=Tryz.f84) func84 U [str x,.slice a y.length c] U (Ad (Ac U (qA (Ad (Ce U (VF U FA U ?_))))));refine Ah U (AO AX U (Ay U U ?_));refine Ay U U (Ac U (qA (A6 (AG (v:=(.int _ _)) U U U ?_))));exact⟨qab (Value.int .i64) (by simp;try omega),rfl⟩
theorem Al5{M:Mut}(w:World)(a:Option Addr)(n c:Nat)(L:List Wr)(X:Wrs w M a n c L)(hL:∀x∈L,x.Few)(hn:n<=1000:=by omega):
  Ret prog 44 #[.slice a n c] w fun v w'=>∃a' c',v=.slice a' (opB L).length c'/\Rd w' a' 1 B8 (opB L)/\(opB L=[]\/w.heap.size<=(adr a').block)/\(opB L).length<=c'/\Ext [] w w':=by
 obtain⟨w0,rfl⟩:=qD w;obtain⟨ps,R,-,hl,hp⟩:=X.ex;have hnL:=X.num;have hpn:ps.length=n:=by rw[hnL,<-hl,qai]
 refine A8 (fn:=f44) func44 U [.slice a n c] U (Ad (Ak U (qA (Ad (Ak U (qA (Ar (Ad (Ah U (AO Cn U ?_))))))))));refine Ae U (qA (AB (B6 8589934184 (α:=Nat × Option Addr × Nat) (fun s=>[(9,.int .i64 (s.1:Int)),(3,.slice s.2.1 (opB (L.take s.1)).length s.2.2)]) (fun s w'=>s.1<=n/\Ext [] w0 w'/\Rd w' s.2.1 1 B8 (opB (L.take s.1))/\(opB (L.take s.1)=[]\/w0.heap.size<=(adr s.2.1).block)/\(opB (L.take s.1)).length<=s.2.2) (fun s=>n - s.1) (0,none,0) U ?_ ?_ ?_)))
 .exact⟨rfl,rfl,trivial⟩
 .exact⟨qak _,Ext.refl _ _,Rd.nil,.inl rfl,qae _⟩
 .rintro⟨i,a3,c3⟩ j w1 ⟨hi,hx,R3,h3,hc3⟩;dsimp only at hi hx R3 h3 hc3;dsimp only;have H:=Ctx.start w1 [];refine Ad (Bj U U (qA (Ar (Av _ U ?_ ?_))))
  .intro h1;replace h1:=AR h1;obtain⟨m,hm⟩:=AP (l:=ps) (i:=i);have hok:=hp m (qad hm);have hxL:L[i]?=some m.x:=by rw[<-hl,qas,hm];rfl
   have hfew:=hL _ (qad hxL)
   have hlen:(opB (L.take i)).length<=165000:=by
    have h5:=Om (L:=L.take i) fun x hx=>hL x (qbq hx);have h6:=List.length_take_le i L;omega
   have hs:=XM hxL;unfold Wr.Few at hfew;refine Ap (Aa (Ar (AB (Ad (AY R Cn Cw U U ?_)))));refine EN _ RO Cw U U ((R.ext0 hx).row hm U) (Bi F7 H ?_);rintro b5 w - H;refine Bo Cw U U U (by exact FV m) H at0 U ?_;rintro w H;refine qA (Ad (Ac U (qA (Ar (Ad (Af Jt U (AH Ge U H at0 U (qA (Av _ U ?_ ?_)))))))))
   .intro hd;refine Au (Ac U (qA (Ad (Ah U (Ae U (Aj qB (Gt a3 c3 _ (opB (L.take i)) 1 1 _ (R3.ext0 H.ext) U (hm:=by omega) (by decide)) U ?_))))));rintro v w F17;rw[An2]at F17;obtain⟨a17,c17,rfl,R17,hc17⟩:=Fresh.rdB F17;replace H:=H.call F17.ext;refine Ak U (qA (Ad (Ah U (Af EK U (AH B1 U H at0 U (Aj qB (FK a17 c17 _ _ m.ka m.kc _ m.x.k _ R17 U (by simp[Ba];omega) ((hok.k.1.ext0 hx).ext0 H.ext) U hok.kc) U ?_))))));rintro v w ⟨x22,rfl,F22⟩;obtain⟨a22,c22,rfl,R22,hc22⟩:=Fresh.rdB F22;replace H:=H.call F22.ext;refine AW U (Ai U U (Ai U U (Ak U (qA (Au (Ah U (Af EL U (AH B1 U H at0 U (Aj qB (FK a22 c22 _ _ m.va m.vc _ m.x.v _ R22 U (by simp[Ba];omega) ((hok.v.1.ext0 hx).ext0 H.ext) U hok.vc) U ?_)))))))));rintro v w ⟨x29,rfl,F29⟩
    rw[qa1,qa1,show Bq 1 1++((Bq m.x.k.length 2++m.x.k)++(Bq m.x.v.length 2++m.x.v))=wrB m.x by(unfold wrB;rw[hd];rfl),<-hs]at F29;have hx29:=hx.trans H.ext;obtain⟨a29,c29,rfl,R29,hc29,h29⟩:=Fresh.newB (Fresh.since F29 hx29);replace H:=H.call F29.ext;refine AW U (Ai U U (Ai U U (Ak U (Ab (AE (Aa (Au (Ay U U ?_))))))));refine Ae U (qA ?_);exact⟨(i+1,a29,c29),rfl,⟨rfl,rfl,trivial⟩,⟨by dsimp only;omega,hx.trans H.ext,R29,h29,hc29⟩,by dsimp only;omega⟩
   .intro hd;refine Ap (Aa (Ad (Ah U (Ae U (Aj qB (Gt a3 c3 _ (opB (L.take i)) 0 1 _ (R3.ext0 H.ext) U (hm:=by omega) (by decide)) U ?_)))));rintro v w F17;rw[An2]at F17;obtain⟨a17,c17,rfl,R17,hc17⟩:=Fresh.rdB F17;replace H:=H.call F17.ext;refine Ak U (qA (Ad (Ah U (Af EK U (AH B1 U H at0 U (Aj qB (FK a17 c17 _ _ m.ka m.kc _ m.x.k _ R17 U (by simp[Ba];omega) ((hok.k.1.ext0 hx).ext0 H.ext) U hok.kc) U ?_))))));rintro v w ⟨x22,rfl,F22⟩;obtain⟨a22,c22,rfl,R22,hc22⟩:=Fresh.rdB F22;replace H:=H.call F22.ext;refine AW U (Ai U U (Ai U U (Ak U (qA (Au (Ah U (Af EL U (AH B1 U H at0 U (Aj qB (FK a22 c22 _ _ m.va m.vc _ m.x.v _ R22 U (by simp[Ba];omega) ((hok.v.1.ext0 hx).ext0 H.ext) U hok.vc) U ?_)))))))));rintro v w ⟨x29,rfl,F29⟩
    rw[qa1,qa1,show Bq 0 1++((Bq m.x.k.length 2++m.x.k)++(Bq m.x.v.length 2++m.x.v))=wrB m.x by(unfold wrB;rw[hd];rfl),<-hs]at F29;have hx29:=hx.trans H.ext;obtain⟨a29,c29,rfl,R29,hc29,h29⟩:=Fresh.newB (Fresh.since F29 hx29);replace H:=H.call F29.ext;refine AW U (Ai U U (Ai U U (Ak U (Ab (AE (Aa (Au (Ay U U ?_))))))));refine Ae U (qA ?_);exact⟨(i+1,a29,c29),rfl,⟨rfl,rfl,trivial⟩,⟨by dsimp only;omega,hx.trans H.ext,R29,h29,hc29⟩,by dsimp only;omega⟩
  .intro h1;replace h1:=AU h1;obtain rfl:i=n:=by omega
   refine B2 (Aw (Aw (AZ (Aa (Ad (Ah U (Ak U (qA (A6 (AG (v:=(.slice _ _ _)) U U U ?_))))))))));have ht:L.take i=L:=qa6 (by omega);rw[ht]at R3 h3 hc3 |-;exact⟨a3,c3,rfl,R3,h3,hc3,hx⟩
section
variable {α β:Type}{f:α->β}{k k':Byt}{x:α}
theorem Fh{m:List (Byt × α)}:BJ (m.map fun p=>(p.1,f p.2)) k=(BJ m k).map f:=by
 induction m with
 |nil=>rfl
 |cons p m ih =>
  unfold BJ at ih |-
  by_cases h:p.1=k <;> simp_all
theorem Oo:∀{m:List (Byt × α)},JC (m.map fun p=>(p.1,f p.2)) k (f x)=(JC m k x).map fun p=>(p.1,f p.2)
 | []=>rfl
 |p::m=>by
  simp only[qaz,JC]
  split
  .rfl
  .rw[Oo (m:=m)];rfl
theorem Oq:∀{m:List (Byt × α)},Gr (m.map fun p=>(p.1,f p.2)) k=(Gr m k).map fun p=>(p.1,f p.2)
 | []=>rfl
 |p::m=>by
  simp only[qaz,Gr]
  split
  .rfl
  .rw[Oq (m:=m)];rfl
theorem EV{m:List (Byt × α)}(h:BJ m k=some x):(k,x)∈m:=by
 unfold BJ at h;obtain⟨p,hp,rfl⟩:=qey.1 h;have h1:=List.mem_of_find?_eq_some hp;have h2:=List.find?_some hp;simp only[qaq]at h2;subst h2;exact h1
theorem FW{m:List (Byt × α)}:(BJ m k).isSome=decide (k∈m.map (·.1)):=by
 induction m with
 |nil=>rfl
 |cons p m ih =>
  unfold BJ at ih |-
  by_cases h:p.1=k
  .simp[h]
  .have h':¬k=p.1:=fun e=>h e.symm;simp_all
end
structure Sv where
 a:Option Addr
 c:Nat
 v:Byt
def Sv.enc(s:Sv):Value := .slice s.a s.v.length s.c
abbrev mv(l:List (Byt × Sv)):List (Byt × Value):=l.map fun p=>(p.1,p.2.enc)
abbrev mi(l:List (Byt × Int)):List (Byt × Value):=l.map fun p=>(p.1,.int .i64 p.2)
structure KvAt(w:World)(M:Mut)(l:List (Byt × Sv))(o:Obj):Prop where
 m:Ek str (mv l) o
 ok:∀p∈l,Rdx w M p.2.a p.2.v/\p.2.v.length<=p.2.c
 few:∀p∈l,p.1.length<=32/\p.2.v.length<=128
def ME(k v:Byt):Int:=((k.length+v.length+4:Nat):Int)
def Jo(l:List (Byt × Sv))(k:Byt):Int:=match BJ l k with|some s=>ME k s.v|none=>0
def H3(x:Wr):Int:=if x.d=true then 0 else ME x.k x.v
def HA(seen:Bool)(x:Wr):Bool:=seen || (decide (x.k=[]) || (decide (32<x.k.length) || (decide (128<x.v.length) || (x.d && decide (0<x.v.length)))))
def goR(l:List (Byt × Sv))(room:Int):List Byt->Int->List Wr->Int
 |_,b,[]=>if room<b then 7 else 0
 |seen,b,x::L=>if HA (decide (x.k∈seen)) x=true then 1 else goR l room (seen++[x.k]) (b - Jo l x.k+H3 x) L
def We(l:List (Byt × Sv))(n room:Int)(L:List Wr):Int:=if 1000<L.length then 6 else goR l room [] n L
theorem Aee{bs bd bsu bma m1 m2 sz gen:Nat}{left n root:Int}{on dead:Bool}{vj vp vt:Value}{o1:Obj}{M:Mut}{l:List (Byt × Sv)}(w:World)(a:Option Addr)(nn c:Nat)(L:List Wr)(hs:w.heap[bs]?=some (Bl CU (CN (ptr bd) vj vp vt gen root m1 m2 n dead)))(hd:w.heap[bd]?=some (Bl TD (DB sz bsu bma left on)))(h1m:w.heap[m1]?=some o1)(K:KvAt w M l o1)(X:Wrs w M a nn c L)(hnn:nn<=1000000000)(hsz:sz<=100000:=by omega)(hn0: -1000000000<=n:=by omega)(hn1:n<=1000000000:=by omega):
  Ret prog 43 #[ptr bs,.slice a nn c] w fun v w'=>v=.int .i64 (We l n (Da sz) L)/\Ext [] w w':=by
 obtain⟨w0,rfl,H⟩:=qE w;obtain⟨ps,R,-,hl,hp⟩:=X.ex;have hnL:=X.num;have hpn:ps.length=nn:=by rw[hnL,<-hl,qai]
 refine A8 (fn:=f43) func43 U [ptr bs,.slice a nn c] U (Ad (Ac U (qA (Ar (Ad (Ah U (AO Cn U (BZ U U (qA (Av _ U ?_ ?_))))))))))
 .intro h1;replace h1:=AR h1;refine Ad (Ac U (qA (A6 (Ao (AG (v:=(.int _ _)) U U U ?_)))));exact⟨qab (Value.int .i64) (if_pos (by omega)).symm,Ext.refl _ _⟩
 .intro h1;replace h1:=AU h1;have hrE:We l n (Da sz) L=goR l (Da sz) [] n L:=if_neg (by omega);rw[hrE];refine Ap (Aa (Ad (KV (κ:=List UInt8) str U H ?_)));rintro b17 o17 w hM H;refine Ri U U (qA (Ad (An U (A7 U (Af Md U (Bd DV U ((by rw[Aq (H.ext.to hs (by simp))];rfl)) ?_))))));refine Ac U (qA (Ar (Ad (Ah U (AO Cn U (Ae U (qA (AB (B6 38685626227668133573836752 (α:=Nat × Int × List (Byt × Int) × Obj) (fun s=>[(24,.int .i64 (s.1:Int)),(6,.int .i64 s.2.1)]) (fun s w'=>s.1<=nn/\Ctx w0 [] w' [(b17,s.2.2.2)]/\Ek str (mi s.2.2.1) s.2.2.2/\goR l (Da sz) (s.2.2.1.map (·.1)) s.2.1 (L.drop s.1)=goR l (Da sz) [] n L/\n - 200*(s.1:Int)<=s.2.1/\s.2.1<=n+200*(s.1:Int)) (fun s=>nn - s.1) (0,n,[],o17) U ?_ ?_ ?_)))))))))
  .exact⟨rfl,rfl,trivial⟩
  .exact⟨qak _,H,hM,rfl,by simp,by simp⟩
  .clear H hM;rintro⟨i,b,ss,o⟩ j w1 ⟨hi,H,hM,hgo,hb1,hb2⟩;dsimp only at hi H hM hgo hb1 hb2;dsimp only;refine Ad (Bj U U (qA (Ar (Av _ U ?_ ?_))))
   .intro h2;replace h2:=AR h2;obtain⟨m,hm⟩:=AP (l:=ps) (i:=i);have hok:=hp m (qad hm);have hxL:L[i]?=some m.x:=by rw[<-hl,qas,hm];rfl
    have hdr:L.drop i=m.x::L.drop (i+1):=by
     obtain⟨hlt,he⟩:=qap.1 hxL;rw[qdz hlt,he]
    rw[hdr,goR]at hgo;refine Ap (Aa (Ar (AB (Ad (Ae U (AY R Cn Cw U U ?_))))));refine EN _ RO Cw U U ((R.ext0 H.ext).row hm U) (Bi F7 H ?_);rintro b8 w - H;refine Ac U (Bo Cw U U U (by exact FV m) H at0 U ?_);rintro w H;refine qA (Ad (Af EK U (AH B1 U H at0 U (Kk AX Hm FA U (hok.k.1.ext0 H.ext) ?_))));refine IM U U (qA (Ad (KT U U (Ce U (FU (m:=mi ss) (n:=m.x.k) U Sd (Fy FA) zv_3 U U H at1 hM ?_)))));rw[show(BJ (mi ss) m.x.k).getD (.int .i64 0)=.int .i64 ((BJ ss m.x.k).getD 0)by(rw[Fh (f:=Value.int .i64)];cases BJ ss m.x.k <;> rfl),show(BJ (mi ss) m.x.k).isSome=decide (m.x.k∈ss.map (·.1))by(rw[Fh (f:=Value.int .i64),qe6,FW])];refine AW U (Ai U U (Ai U U (Ac U (Am U (qA (Ar (AB (Ar (Ad ?_)))))))))
    refine AF U (Am U (qA (Gn 144114363442135040 (α:=Unit) (fun _=>[(38,.bool (HA (decide (m.x.k∈ss.map (·.1))) m.x))]) (fun _ w'=>Ctx w0 [] w' [(b8,Bl 56 (CE m)),(b17,o)]) U ?_ ?_)))
    .skip
     refine Dx 38 U ?_ ?_
     .intro c1;refine Ap (Aa ?_);exact⟨(),rfl,⟨qab Value.bool (by unfold HA;simp_all),trivial⟩,H⟩
     .intro c1;refine Ad (Ce U (Ro (m:=[]) U U U ?_));refine Am U (qA (Dx 38 U ?_ ?_))
      .intro c2;refine Ap (Aa ?_);exact⟨(),rfl,⟨qab Value.bool (by unfold HA;simp_all),trivial⟩,H⟩
      .intro c2;refine Ad (Ce U (VF U FA U ?_));refine BZ U U (Am U (qA (Dx 38 U ?_ ?_)))
       .intro c3;replace c3:=AR c3;refine Ap (Aa ?_);exact⟨(),rfl,⟨qab Value.bool (by unfold HA;simp_all;omega),trivial⟩,H⟩
       .intro c3;replace c3:=AU c3;refine Ad (Af EL U (AH B1 U H at0 U (AO AX U (BZ U U (Am U (qA (Dx 38 U ?_ ?_)))))))
        .intro c4;replace c4:=AR c4;refine Ap (Aa ?_);exact⟨(),rfl,⟨qab Value.bool (by unfold HA;simp_all;omega),trivial⟩,H⟩
        .intro c4;replace c4:=AU c4;refine Au (Af Jt U (AH Ge U H at0 U (AF U (AQ 51 U ?_ ?_))))
         .intro c5;refine Af EL U (AH B1 U H at0 U (AO AX U (BZ U U (AN U (.bool _) U (Am U (qA ?_))))));exact⟨(),rfl,⟨qab Value.bool (by unfold HA;simp_all;(rw[qag (show ¬32<m.x.k.length by omega),qag (show ¬128<m.x.v.length by omega)];rfl)),trivial⟩,H⟩
         .intro c5;refine Ag U (Ag U (Ag U (Ag U (AM U (.bool _) U (Am U (qA ?_))))));exact⟨(),rfl,⟨qab Value.bool (by unfold HA;simp_all;omega),trivial⟩,H⟩
    .rintro - j38 w H;refine Dx 38 U ?_ ?_
     .intro hb;rw[if_pos hb]at hgo;refine Ad (Ac U (qA (A6 (AK (Ao (AK (Ao (Ao (AK (Ao (AG (v:=(.int _ _)) U U U ?_)))))))))));exact⟨qab (Value.int .i64) hgo,H.ext⟩
     .intro hb;rw[if_neg (by simp[hb])]at hgo
      have hfew:m.x.k.length<=32/\m.x.v.length<=128/\m.x.k∉ss.map (·.1):=by
       unfold HA at hb;simp only[qdy,qct]at hb;exact⟨by omega,by omega,hb.1⟩
      have hset:JC (mi ss) m.x.k (.int .i64 (i:Int))=mi (ss++[(m.x.k,(i:Int))]):=by
       rw[FT (by rw[Fh (f:=Value.int .i64),Option.map_eq_none_iff,<-qdf,FW];simpa using hfew.2.2)];simp
      rcases hq:BJ l m.x.k with _|s
      .skip
       have hold:Jo l m.x.k=0:=by unfold Jo;rw[hq]
       refine Ap (AE (Aa (Ad (KT U U (Ce U (Ae U (HF (.int .i64 (i:Int)) U Sd (Fy FA) U U U H at1 hM ?_)))))));rw[hset];clear hM;rintro o16 w hM H;refine qA (Ar (Ad (An U (A7 U (Af HH U (Bd MJ U ((by rw[Aq (H.ext.to hs (by simp))];rfl)) ?_))))));refine Ce U (FU (m:=mv l) (n:=m.x.k) U NK (Fy FA) Sj U U (Ctx.start1 (H.ext.to h1m (by simp))) at0 K.m ?_);rw[Fh (f:=Sv.enc),hq];refine AW U (Ai U U (Ai U U (Ak U (Am U (qA (Ad (AF U (qA (Bz U ?_)))))))));refine Ap (Aa (Ad (Af Jt U (AH Ge U H at0 U (Cl U (qA (Av _ U ?_ ?_)))))))
       .intro hdd;replace hdd:=C8 hdd;have hnew:H3 m.x=ME m.x.k m.x.v:=by unfold H3;rw[if_neg (by simp_all)]
        rw[hold,hnew]at hgo;refine Au (Ae U (Ce U (Af EL U (AH B1 U H at0 U (Aj qB (JS m.x.k m.x.v m.va m.vc _) U ?_)))));rintro v w ⟨rfl,rfl⟩;refine Ay U U (Ac U (Ab (AE (Aa (Au (Ay U U ?_))))));refine Ae U (qA ?_);refine⟨(i+1,b+((m.x.k.length+m.x.v.length+4:Nat):Int),ss++[(m.x.k,(i:Int))],o16),rfl,⟨rfl,rfl,trivial⟩,⟨by dsimp only;omega,(H.drop 1:Ctx w0 [] _ [(b17,o16)]),hM,?_,?_,?_⟩,by dsimp only;omega⟩
        .dsimp only;rw[qay,<-hgo];simp[ME]
        .dsimp only;omega
        .dsimp only;omega
       .intro hdd;replace hdd:=CA hdd;have hnew:H3 m.x=0:=by unfold H3;rw[if_pos (by simp_all)]
        rw[hold,hnew]at hgo;refine Ap (AE (Aa (Au (Ay U U ?_))));refine Ae U (qA ?_);refine⟨(i+1,b,ss++[(m.x.k,(i:Int))],o16),rfl,⟨rfl,rfl,trivial⟩,⟨by dsimp only;omega,(H.drop 1:Ctx w0 [] _ [(b17,o16)]),hM,?_,?_,?_⟩,by dsimp only;omega⟩
        .dsimp only;rw[qay,<-hgo];simp[ME]
        .dsimp only;omega
        .dsimp only;omega
      .skip
       have hold:Jo l m.x.k=ME m.x.k s.v:=by unfold Jo;rw[hq]
       have hsf:=(K.few _ (EV hq)).2;dsimp only at hsf;refine Ap (AE (Aa (Ad (KT U U (Ce U (Ae U (HF (.int .i64 (i:Int)) U Sd (Fy FA) U U U H at1 hM ?_)))))));rw[hset];clear hM;rintro o16 w hM H;refine qA (Ar (Ad (An U (A7 U (Af HH U (Bd MJ U ((by rw[Aq (H.ext.to hs (by simp))];rfl)) ?_))))));refine Ce U (FU (m:=mv l) (n:=m.x.k) U NK (Fy FA) Sj U U (Ctx.start1 (H.ext.to h1m (by simp))) at0 K.m ?_);rw[Fh (f:=Sv.enc),hq];refine AW U (Ai U U (Ai U U (Ak U (Am U (qA (Ad (AF U (qA (EI U ?_)))))))));refine Au (Ae U (Ce U (Ah U (Aj qB (JS m.x.k s.v s.a s.c _) U ?_))));rintro v w ⟨rfl,rfl⟩;refine BD U U (Ac U (qA (Ad (Af Jt U (AH Ge U H at0 U (Cl U (qA (Av _ U ?_ ?_))))))))
       .intro hdd;replace hdd:=C8 hdd;have hnew:H3 m.x=ME m.x.k m.x.v:=by unfold H3;rw[if_neg (by simp_all)]
        rw[hold,hnew]at hgo;refine Au (Ae U (Ce U (Af EL U (AH B1 U H at0 U (Aj qB (JS m.x.k m.x.v m.va m.vc _) U ?_)))));rintro v w ⟨rfl,rfl⟩;refine Ay U U (Ac U (Ab (AE (Aa (Au (Ay U U ?_))))));refine Ae U (qA ?_);refine⟨(i+1,b - ((m.x.k.length+s.v.length+4:Nat):Int)+((m.x.k.length+m.x.v.length+4:Nat):Int),ss++[(m.x.k,(i:Int))],o16),rfl,⟨rfl,rfl,trivial⟩,⟨by dsimp only;omega,(H.drop 1:Ctx w0 [] _ [(b17,o16)]),hM,?_,?_,?_⟩,by dsimp only;omega⟩
        .dsimp only;rw[qay,<-hgo];simp[ME]
        .dsimp only;omega
        .dsimp only;omega
       .intro hdd;replace hdd:=CA hdd;have hnew:H3 m.x=0:=by unfold H3;rw[if_pos (by simp_all)]
        rw[hold,hnew]at hgo;refine Ap (AE (Aa (Au (Ay U U ?_))));refine Ae U (qA ?_);refine⟨(i+1,b - ((m.x.k.length+s.v.length+4:Nat):Int),ss++[(m.x.k,(i:Int))],o16),rfl,⟨rfl,rfl,trivial⟩,⟨by dsimp only;omega,(H.drop 1:Ctx w0 [] _ [(b17,o16)]),hM,?_,?_,?_⟩,by dsimp only;omega⟩
        .dsimp only;rw[qay,<-hgo];simp[ME]
        .dsimp only;omega
        .dsimp only;omega
   .intro h2;replace h2:=AU h2;obtain rfl:i=nn:=by omega
    rw[qb8 (by omega),goR]at hgo;refine B2 (Aw (Aw (AZ (Aa (Ar (Ad (Ae U (An U (A7 U (Af Q4 U (Bd Dm U ((by rw[Aq (H.ext.to hs (by simp))];rfl)) ?_)))))))))));refine Aj qB (Hf (H.ext.to hd (by simp))) U ?_;rintro v w ⟨rfl,rfl⟩;refine Aj qB (Ll _ (h:=by omega) _) U ?_;rintro v w ⟨rfl,rfl⟩;refine BZ U U (qA (Av _ U ?_ ?_))
    .intro h3;replace h3:=AR h3;refine Ad (Ac U (qA (A6 (Ao (AG (v:=(.int _ _)) U U U ?_)))));exact⟨qab (Value.int .i64) (by rw[<-hgo,if_pos h3]),H.ext⟩
    .intro h3;replace h3:=AU h3;refine Ap (Aa (Ad (Ac U (qA (A6 (AG (v:=(.int _ _)) U U U ?_))))));exact⟨qab (Value.int .i64) (by rw[<-hgo,if_neg h3]),H.ext⟩
theorem Prs.turn{w w':World}{M M':Mut}{a:Option Addr}{n c:Nat}{L:List Pr}(h:Prs w M a n c L)(t:Grown M M' w w'):Prs w' M' a n c L:=by
 obtain⟨ps,R,hs,hl,hm⟩:=h.ex;obtain⟨R',hs'⟩:=Rd.turnM R hs (by decide) (fun _ _=>rfl) t;exact⟨⟨ps,R',hs',hl,fun m hx=>(hm m hx).turn t⟩,h.num,h.le⟩
theorem Prs.weak{w:World}{M M':Mut}{a:Option Addr}{n c:Nat}{L:List Pr}(h:Prs w M a n c L)(hM:∀x,M' x->M x):Prs w M' a n c L:=by
 obtain⟨ps,R,hs,hl,hm⟩:=h.ex;exact⟨⟨ps,R,hs.imp id fun h h2=>h (hM _ h2),hl,fun m hx=>(hm m hx).weak hM⟩,h.num,h.le⟩
theorem Prs.nil{w:World}{M:Mut}:Prs w M none 0 0 []:=⟨⟨[],Rd.nil,.inl rfl,rfl,fun m h=>by cases h⟩,rfl,qae _⟩
theorem Ajk{α:Type}{p:α->Bool}:∀(T:List α),(∀j x,j<(T.takeWhile p).length->T[j]?=some x->p x=true)/\(∀x,T[(T.takeWhile p).length]?=some x->p x=false)
 | []=>⟨fun j x h=>absurd h (qc3 _),fun x h=>by cases h⟩
 |y::T=>by
  obtain⟨h1,h2⟩:=Ajk (p:=p) T
  by_cases hy:p y=true
  .rw[qc4,hy];simp only[if_true,qav];refine⟨fun j x hj hx=>?_,fun x hx=>h2 x (by simpa using hx)⟩
   cases j with
   |zero=>simp only[qc7,qbb]at hx;rw[<-hx];exact hy
   |succ j=>exact h1 j x (by omega) (by simpa using hx)
  .have hy:p y=false:=by simpa using hy
   rw[qc4,hy];refine⟨fun j x h=>absurd h (qc3 _),fun x hx=>?_⟩
   have:y=x:=by simpa using hx
   rw[<-this];exact hy
theorem Ajl{L:List Pr}(hr:Rising L){k:Byt}(hk:L[0]?.map (·.1)=some k):∀p∈L,¬ltB p.1 k:=by
 cases L with
 |nil=>cases hk
 |cons q L =>
  have hq:q.1=k:=by simpa using hk
  intro p hp
  rcases qac.1 hp with rfl|hp
  .rw[hq];exact Hw _
  .rw[<-hq];exact Fp ((qbh.1 hr).1 p hp)
theorem Kids.first{Q:Nat->List Pr->List Nat->Prop}{x:It}{l:List It}{L:List Pr}{S:List Nat}(h:Kids Q (x::l) L S):L[0]?.map (·.1)=some x.key:=by
 obtain⟨L1,L2,S1,S2,rfl,rfl,h1,h2,h3,h4⟩:=h
 cases L1 with
 |nil=>cases h2
 |cons y L1=>exact h2
theorem Qf{Q:Nat->List Pr->List Nat->Prop}{l:List It}{L:List Pr}{S:List Nat}(hk:Kids Q l L S)(hr:Rising L)(hl:l≠[])(key:Byt) :
  ∃a x b La Lx Lb Sa Sx Sb,l=a++x::b/\a.length=Cf l key/\L=La++(Lx++Lb)/\S=Sa++(Sx++Sb)/\Kids Q a La Sa/\Q x.page Lx Sx/\Lx[0]?.map (·.1)=some x.key/\x.val=[]/\Kids Q b Lb Sb/\(∀p∈La,ltB p.1 key)/\(∀p∈Lb,ltB key p.1):=by
 have hi:=Po hl key;obtain⟨t1,t2⟩:=Ajk (p:=fun x:It=>decide (DU x.key key<=0)) l.tail;obtain⟨x,hx⟩:=AP (l:=l) (i:=Cf l key) (h:=hi)
 have hsp:l=l.take (Cf l key)++x::l.drop (Cf l key+1):=by
  rw[<-Ew hx,qbl]
 have hk':=hk;rw[hsp]at hk';obtain⟨La,Lr,Sa,Sr,rfl,rfl,ka,kr⟩:=FM.1 hk';obtain⟨Lx,Lb,Sx,Sb,rfl,rfl,q1,q2,q3,kb⟩:=kr;obtain⟨r1,r2,r3⟩:=Rising.append.1 hr;obtain⟨r4,r5,r6⟩:=Rising.append.1 r2;refine⟨_,x,_,La,Lx,Lb,Sa,Sx,Sb,hsp,by rw[qa0];omega,rfl,rfl,ka,q1,q2,q3,kb,fun p hp=>?_,fun p hp=>?_⟩
 .rcases Nat.eq_zero_or_pos (Cf l key)with h0|h0
  .rw[h0,qdw]at ka;rw[ka.1]at hp;cases hp
  .have h5:=t1 (Cf l key - 1) x (by show _<Cf l key;omega) (by rw[List.getElem?_tail,Nat.sub_add_cancel h0];exact hx);have h6:=VX.1 (qb6 h5)
   cases Lx with
   |nil=>cases q2
   |cons y Lx =>
    have hy:y.1=x.key:=by simpa using q2
    exact Ail (hy ▸ r3 p hp y (by simp)) h6
 .cases hb:l.drop (Cf l key+1)with
  |nil =>
   rw[hb]at kb;rw[kb.1]at hp;cases hp
  |cons y b =>
   rw[hb]at kb
   have h5:=t2 y (by
    show l.tail[Cf l key]?=some y;rw[List.getElem?_tail]
    have:(l.drop (Cf l key+1))[0]?=some y:=by rw[hb];rfl
    rw[qcm]at this;exact this)
   have h6:ltB key y.key:=by
    have:=qcx h5
    rcases Mj key y.key with h7|h7|h7
    .exact h7
    .exact absurd (VX.2 (by rw[h7];exact Hw _)) this
    .exact absurd (VX.2 (Fp h7)) this
   exact Ail h6 (Ajl r5 kb.first p hp)
structure Acts(key:Byt)(G:List It->List It)(g:List Pr->List Pr):Prop where
 leaf:∀L,Rising L->OkP L->G (L.map BM)=(g L).map BM
 mid:∀A L B,(∀p∈A,ltB p.1 key)->(∀p∈B,ltB key p.1)->g (A++(L++B))=A++(g L++B)
 ok:∀L,OkP L->OkP (g L)
 size:∀L,Rising L->OkP L->Bc false ((g L).map BM)<=Bc false (L.map BM)+164
structure Eds(fr h:Nat)(L:List Pr)(S t g':List Nat)(r:Int × Ch × Bool × List It):Prop where
 ok:r.1=0
 on:On fr r.2.1
 part:∃S',Part (RD r.2.1.A fr) h r.2.2.1 r.2.2.2 L S'/\(S'++g').Perm (S++t)/\Held r.2.1.P S'
 ne:0<h->r.2.2.2≠[]
 sz:Bc r.2.2.1 r.2.2.2<=667
theorem OkP.sub{L L':List Pr}(h:OkP L)(hs:∀p∈L',p∈L):OkP L':=fun p hp=>h p (hs p hp)
theorem OkP.app{L L':List Pr}(h:OkP L)(h':OkP L'):OkP (L++L'):=fun p hp=>(qat.1 hp).elim (h p) (h' p)
theorem ZJ{fr:Nat}{c:Ch}{p d:Nat}(h:(Dp c.A fr c.P.length (p:Int) (d:Int)).1=0):rdC fr c p d={ c with gn:=c.gn++[p] }:=by
 unfold rdC;rw[if_pos h]
theorem Nl{a b:List It}{x:It}{i:Nat}(h:a.length=i):Cr (a++x::b) i=x.page:=by
 subst h;unfold Cr;simp
theorem Lies.read{fr h p d:Nat}{c:Ch}{L:List Pr}{S:List Nat}(hL:Lies (RD c.A fr) h p L S)(hh:Held c.P S)(hn:On fr c)(hd:d<=16) :
  ∃i M S',Dp c.A fr c.P.length (p:Int) (d:Int)=(0,some (i,M))/\Part (RD c.A fr) h i M L S'/\S=p::S'/\Many i M/\Bc i M<=503:=by
 have hp:=hh.lt hL.page;obtain⟨i,M,S',h1,h2,h3,h4,h5⟩:=hL;exact⟨i,M,S',Lo hn.on hp hn.has hd h2,h1,h3,h4,h5⟩
theorem Part.inner0{R:Nat->Option (Bool × List It)}{i:Bool}{M:List It}{L:List Pr}{S:List Nat}(h:Part R 0 i M L S):i=false:=h.1
theorem Kids.total{R:Nat->Option (Bool × List It)}{h:Nat}{l:List It}{L:List Pr}{S:List Nat}(hk:Kids (Lies R h) l L S)(ho:OkP L):Bc true l<=38*l.length :=
 Fq fun x hx=>by have:=(hk.items ho x hx).2.1;show 6+x.key.length<=38;omega
structure Sides(fr h:Nat)(c:Ch)(l:List It)(La Lx' Lb:List Pr)(Sa Sx' Sb g':List Nat)(i:Bool)(s:Int × Ch × List It × Nat × Nat):Prop where
 ok:s.1=0
 ci:CI fr c s.2.1 [] g'
 on:On fr s.2.1
 many:(s.2.2.1=[]/\h=0)\/Many i s.2.2.1
 sz:Bc i s.2.2.1<=667
 part:∃(a b:List It) (L1 L2 L3:List Pr) (S1 S2 S3:List Nat),l.take s.2.2.2.1=a/\l.drop s.2.2.2.2=b/\Bc true a+Bc true b<=503/\1<=a.length+b.length+(if s.2.2.1=[]then 0 else 1)/\Kids (Lies (RD c.A fr) h) a L1 S1/\Part (RD c.A fr) h i s.2.2.1 L2 S2/\Kids (Lies (RD c.A fr) h) b L3 S3 /\
  L1++(L2++L3)=La++(Lx'++Lb)/\(S1++(S2++(S3++g'))).Perm (Sa++(Sx'++Sb))
theorem Aef{fr h d:Nat}{c:Ch}{l a b:List It}{x:It}{i:Bool}{M:List It}{La Lx Lb:List Pr}{Sa Sx Sb:List Nat}(hl:l=a++x::b)(h2:2<=l.length)(hT:Bc true l<=503)(ka:Kids (Lies (RD c.A fr) h) a La Sa)(kb:Kids (Lies (RD c.A fr) h) b Lb Sb)(hp:Part (RD c.A fr) h i M Lx Sx)(hoa:OkP La)(hox:OkP Lx)(hob:OkP Lb)(hha:Held c.P Sa)(_:Held c.P Sx)(hhb:Held c.P Sb)(hn:On fr c)(hne:0<h->M≠[])(hz:Bc i M<=667)(hd:d+1<=16:=by omega):
  ∃g',Sides fr h c l La Lx Lb Sa Sx Sb g' i (ED fr c l a.length d i M):=by
 have hta:=BB true a (x::b);have htb:=Dc true x b
 by_cases hf:Je i M=true
 .have hi:i=true:=by unfold Je at hf;simp at hf;exact hf.1
  have hM:M.length=1:=by unfold Je at hf;simp at hf;exact hf.2
  cases h with
  |zero=>rw[hp.inner0]at hi;cases hi
  |succ h =>
   obtain⟨_,kx⟩:=hp;have hxt:=Kids.total kx hox;rw[hM]at hxt;subst hi
   have key:∀(pre post:List It) (y:It) (Ly:List Pr) (Sy:List Nat),Lies (RD c.A fr) (h+1) y.page Ly Sy->OkP Ly->Held c.P Sy->Cr l (Jf a.length)=y.page ->
     Jf a.length<l.length->∃o So,Kids (Lies (RD c.A fr) h) o Ly So/\Sy=y.page::So/\2<=o.length/\Bc true o<=503/\CI fr c (rdC fr c y.page (d+1)) [] [y.page]/\On fr (rdC fr c y.page (d+1)) /\
     ED fr c l a.length d true M=(0,rdC fr c y.page (d+1),if a.length=0 then M++o else o++M,a.length - 1,if a.length=0 then 2 else a.length+1):=by
    intro pre post y Ly Sy hy hoy hhy hpy hlt;obtain⟨i2,o,So,r1,r2,r3,r4,r5⟩:=hy.read hhy hn (d:=d+1) hd;obtain⟨rfl,ko⟩:=r2;have r1':(Dp c.A fr c.P.length ((y.page:Nat):Int) ((d+1:Nat):Int)).1=0:=by rw[r1]
    have hrd:=ZJ r1';refine⟨o,So,ko,r3,r4,r5,by rw[hrd];exact CI.gone _ _ _,by rw[hrd];exact⟨hn.on,hn.has,hn.few⟩,?_⟩;unfold ED;rw[if_pos hf,if_neg (by omega),hpy,r1]
   by_cases ha0:a=[]
   .subst ha0
    cases b with
    |nil=>rw[hl]at h2;simp at h2
    |cons y b =>
     obtain⟨Ly,L2,Sy,S2,rfl,rfl,y1,y2,y3,y4⟩:=kb;have hty:=Dc true y b;obtain⟨o,So,ko,rfl,o2,o3,ci,on',hs⟩:=key [] b y Ly Sy y1 (hob.sub fun p hp=>qa5 _ hp) (hhb.sub fun p hp=>qa5 _ hp) (by rw[hl];rfl) (by rw[hl];simp[Jf]);obtain⟨rfl,rfl⟩:=ka;rw[hs];refine⟨[y.page],rfl,ci,on',.inr ?_,?_,[],b,[],Lx++Ly,L2,[],Sx++So,S2,rfl,by rw[hl];rfl,?_,?_,⟨rfl,rfl⟩,?_,y4,by simp,?_⟩
     .show 2<=(M++o).length;rw[qan];omega
     .show Bc true (M++o)<=667;rw[BB];omega
     .have e0:Bc true ([]:List It)=0:=rfl;rw[hl]at hT;omega
     .have:(if(List.length ([]:List It)=0)then M++o else o++M)≠[]:=by
       intro e;have h9:(M++o).length=0:=qab List.length e;rw[qan]at h9;omega
      show 1<=_+(if _=[]then 0 else 1);rw[if_neg this];omega
     .exact⟨rfl,FM.2 ⟨Lx,Ly,Sx,So,rfl,rfl,kx,ko⟩⟩
     .rw[qep];intro z;simp only[qeq,qeg,List.count_nil];omega
   .obtain⟨a',y,rfl⟩:∃a' y,a=a'++[y]:=⟨a.dropLast,a.getLast ha0,(qfi ha0).symm⟩;obtain⟨La',Lr,Sa',Sr,rfl,rfl,ka',kr⟩:=FM.1 ka;obtain⟨Ly,L0,Sy,S0,rfl,rfl,y1,y2,y3,y4⟩:=kr;obtain⟨rfl,rfl⟩:=y4;have hal:(a'++[y]).length=a'.length+1:=by simp
    have hll:l=a'++y::x::b:=by rw[hl];simp
    have hty:=BB true a' [y];have htb2:Bc true [y]=CM true y:=by simp[Bc]
    obtain⟨o,So,ko,rfl,o2,o3,ci,on',hs⟩:=key a' b y Ly Sy y1 (hoa.sub fun p hp=>by simp[hp]) (hha.sub fun p hp=>by simp[hp]) (by rw[hll,hal];exact Nl (by simp[Jf])) (by rw[hll,hal];simp[Jf]);rw[hs];refine⟨[y.page],rfl,ci,on',.inr ?_,?_,a',b,La',Ly++Lx,Lb,Sa',So++Sx,Sb,?_,?_,?_,?_,ka',?_,kb,by simp,?_⟩
    .show 2<=(if(a'++[y]).length=0 then M++o else o++M).length;rw[if_neg (by omega),qan];omega
    .show Bc true (if(a'++[y]).length=0 then M++o else o++M)<=667;rw[if_neg (by omega),BB];omega
    .show l.take ((a'++[y]).length - 1)=a';rw[hll,hal];simp
    .show l.drop (if(a'++[y]).length=0 then 2 else(a'++[y]).length+1)=b;rw[if_neg (by omega),hl];rw[List.drop_append,qb8 (by omega)];simp
    .rw[hl,hta,htb,hty]at hT;omega
    .show 1<=_+(if(if(a'++[y]).length=0 then M++o else o++M)=[]then 0 else 1);rw[if_neg (c:=(a'++[y]).length=0) (by omega),if_neg]
     .omega
     .intro e;have h9:(o++M).length=0:=qab List.length e;rw[qan]at h9;omega
    .show Part _ _ _ (if(a'++[y]).length=0 then M++o else o++M) _ _;rw[if_neg (by omega)];exact⟨rfl,FM.2 ⟨Ly,Lx,So,Sx,rfl,rfl,ko,kx⟩⟩
    .rw[qep];intro z;simp only[qeq,qeg,List.count_nil];omega
 .have hs:ED fr c l a.length d i M=(0,c,M,a.length,a.length+1):=by unfold ED;rw[if_neg hf]
  rw[hs];refine⟨[],rfl,CI.refl _ _,hn,?_,hz,a,b,La,Lx,Lb,Sa,Sx,Sb,by rw[hl];simp,?_,?_,?_,ka,hp,kb,rfl,by simp⟩
  .show(M=[]/\h=0)\/Many i M
   cases h with
   |zero =>
    by_cases hM:M=[]
    .exact .inl ⟨hM,rfl⟩
    .right;rw[hp.inner0];exact hM
   |succ h =>
    right;have hM:=hne (by omega);obtain⟨rfl,_⟩:=hp;show 2<=M.length
    have:¬M.length=1:=fun h=>hf (by unfold Je;rw[qal h];rfl)
    have:=qbv.2 hM;omega
  .show l.drop (a.length+1)=b;rw[hl,List.drop_append,qb8 (by omega)];simp
  .rw[hl,hta,htb]at hT;omega
  .have:l.length=a.length+b.length+1:=by rw[hl];simp;omega
   omega
theorem UT{fr:Nat}{key:Byt}{G:List It->List It}{g:List Pr->List Pr}(act:Acts key G g):∀(h n:Nat) (c:Ch) (p d:Nat) (L:List Pr) (S:List Nat),Lies (RD c.A fr) h p L S->Rising L->OkP L->Held c.P S->On fr c->d+h<=16->h<n ->
  ∃t g',CI fr c (CO fr G key n c p d).2.1 t g'/\t.length<=2*h/\(Eds fr h (g L) S t g' (CO fr G key n c p d)\/Bad c (CO fr G key n c p d).1 (2*h))
 |0,n+1,c,p,d,L,S,hL,hr,ho,hh,hn,hd,hf=>by
  obtain⟨i,M,S',r1,r2,r3,r4,r5⟩:=hL.read hh hn (d:=d) (by omega);obtain⟨rfl,rfl,rfl⟩:=r2;subst r3;have hrd:=ZJ (fr:=fr) (c:=c) (p:=p) (d:=d) (by rw[r1])
  have he:CO fr G key (n+1) c p d=(0,{ c with gn:=c.gn++[p] },false,G (L.map BM)):=by
   rw[CO,r1];dsimp only;rw[hrd]
  rw[he,act.leaf L hr ho];refine⟨[],[p],CI.gone _ _ _,by simp,.inl ⟨rfl,⟨hn.on,hn.has,hn.few⟩,⟨[],⟨rfl,rfl,rfl⟩,by simp,fun x hx=>by cases hx⟩,fun h=>absurd h (Nat.lt_irrefl 0),?_⟩⟩;have:=act.size L hr ho;show Bc false (List.map BM (g L))<=667;omega
 |h+1,n+1,c,p,d,L,S,hL,hr,ho,hh,hn,hd,hf=>by
  obtain⟨i,l,S0,r1,r2,r3,r4,r5⟩:=hL.read hh hn (d:=d) (by omega);obtain⟨rfl,hk'⟩:=r2;have hk:Kids (Lies (RD c.A fr) h) l L S0:=hk';subst r3;have hrd:=ZJ (fr:=fr) (c:=c) (p:=p) (d:=d) (by rw[r1]);have hci:=CI.gone fr c p;rw[<-hrd]at hci;have hn1:On fr (rdC fr c p d):=by rw[hrd];exact⟨hn.on,hn.has,hn.few⟩
  obtain⟨a,x,b,La,Lx,Lb,Sa,Sx,Sb,rfl,hal,rfl,rfl,ka,q1,q2,q3,kb,hlo,hhi⟩:=Qf hk hr r4.ne key;have hh0:Held c.P (Sa++(Sx++Sb)):=hh.sub fun x hx=>qaj _ hx;have hha:Held c.P Sa:=hh0.sub fun x hx=>by simp[hx]
  have hhx:Held c.P Sx:=hh0.sub fun x hx=>by simp[hx]
  have hhb:Held c.P Sb:=hh0.sub fun x hx=>by simp[hx]
  have hoa:OkP La:=ho.sub fun x hx=>by simp[hx]
  have hox:OkP Lx:=ho.sub fun x hx=>by simp[hx]
  have hob:OkP Lb:=ho.sub fun x hx=>by simp[hx]
  have hrx:Rising Lx:=(Rising.append.1 (Rising.append.1 hr).2.1).1;obtain⟨t1,g1,e1,e2,e3⟩:=UT act h n (rdC fr c p d) x.page (d+1) Lx Sx (q1.frame (hci.rd hhx)) hrx hox (hhx.keep hci) hn1 (by omega) (by omega);have hpg:Cr (a++x::b) (Cf (a++x::b) key)=x.page:=Nl hal;obtain⟨r,hrr⟩:=qD (CO fr G key n (rdC fr c p d) x.page (d+1));rw[<-hrr]at e1 e3
  have he:CO fr G key (n+1) c p d=if r.1≠0 then(r.1,r.2.1,true,[])else
    if(ED fr r.2.1 (a++x::b) a.length d r.2.2.1 r.2.2.2).1≠0 then((ED fr r.2.1 (a++x::b) a.length d r.2.2.1 r.2.2.2).1,(ED fr r.2.1 (a++x::b) a.length d r.2.2.1 r.2.2.2).2.1,true,[])else
    ((Fc fr (ED fr r.2.1 (a++x::b) a.length d r.2.2.1 r.2.2.2).2.1 r.2.2.1 (ED fr r.2.1 (a++x::b) a.length d r.2.2.1 r.2.2.2).2.2.1).1,
     (Fc fr (ED fr r.2.1 (a++x::b) a.length d r.2.2.1 r.2.2.2).2.1 r.2.2.1 (ED fr r.2.1 (a++x::b) a.length d r.2.2.1 r.2.2.2).2.2.1).2.1,true,
     (a++x::b).take (ED fr r.2.1 (a++x::b) a.length d r.2.2.1 r.2.2.2).2.2.2.1++((Fc fr (ED fr r.2.1 (a++x::b) a.length d r.2.2.1 r.2.2.2).2.1 r.2.2.1 (ED fr r.2.1 (a++x::b) a.length d r.2.2.1 r.2.2.2).2.2.1).2.2++(a++x::b).drop (ED fr r.2.1 (a++x::b) a.length d r.2.2.1 r.2.2.2).2.2.2.2)):=by
   rw[CO,r1];dsimp only;rw[hpg,<-hrr,<-hal]
  rw[he];have hci1:=hci.trans e1;rw[qa7]at hci1
  rcases e3 with e3|e3
  .obtain⟨S1,p1,p2,p3⟩:=e3.part;rw[if_neg (by rw[e3.ok];simp)];have hn2:=e3.on;have h4:2<=(a++x::b).length:=r4;obtain⟨g2,sd⟩:=Aef (fr:=fr) (c:=r.2.1) (d:=d) rfl h4 r5 (ka.frame (hci1.rd hha)) (kb.frame (hci1.rd hhb)) p1 hoa (act.ok _ hox) hob (hha.keep hci1) p3 (hhb.keep hci1) hn2 e3.ne e3.sz;obtain⟨s,hss⟩:=qD (ED fr r.2.1 (a++x::b) a.length d r.2.2.1 r.2.2.2);rw[<-hss]at sd |-;rw[if_neg (by rw[sd.ok];simp)];obtain⟨a',b',L1,L2,L3,S1',S2',S3',s1,s2,s3,s4,s5,s6,s7,s8,s9⟩:=sd.part;have hci2:=hci1.trans sd.ci;rw[qa3]at hci2
   have hall:Held r.2.1.P (S1'++(S2'++(S3'++g2))):=by
    intro z hz;have:=s9.mem_iff.1 hz
    rcases qat.1 this with h5|h5
    .exact(hha.keep hci1) z h5
    .rcases qat.1 h5 with h5|h5
     .exact p3 z h5
     .exact(hhb.keep hci1) z h5
   have hO:OkP (L1++(L2++L3)):=by rw[s8];exact hoa.app ((act.ok _ hox).app hob)
   have hO2:OkP L2:=hO.sub fun p hp=>by simp[hp]
   have hH2:Held r.2.1.P S2':=hall.sub fun p hp=>by simp[hp]
   have hH1:Held r.2.1.P S1':=hall.sub fun p hp=>by simp[hp]
   have hH3:Held r.2.1.P S3':=hall.sub fun p hp=>by simp[hp]
   obtain⟨t2,u1,u2,u3⟩:=XC (s6.frame (sd.ci.rd hH2)) hO2 (hH2.keep sd.ci) sd.on sd.many sd.sz;have hci3:=hci2.trans u1;rw[qa3]at hci3;refine⟨_,_,hci3,by rw[qan];omega,?_⟩
   rcases u3 with u3|u3
   .obtain⟨S4,k1,k2,k3⟩:=u3.kids;left;have hfin:=sd.ci.trans u1;have hk1:=s5.frame (hfin.rd hH1);have hk3:=s7.frame (hfin.rd hH3);have ht1:=Kids.total k1 hO2;have hnum:=u3.num;refine⟨u3.ok,u3.on,⟨S1'++(S4++S3'),⟨rfl,?_⟩,?_,?_⟩,fun _=>?_,?_⟩
    .rw[act.mid La Lx Lb hlo hhi,<-s8,s1,s2];exact FM.2 ⟨_,_,_,_,rfl,rfl,hk1,FM.2 ⟨_,_,_,_,rfl,rfl,k1,hk3⟩⟩
    .rw[qep]at *;intro z;have e1:=p2 z;have e2:=s9 z;have e3:=k2 z;simp only[qeq,qeg,List.count_nil]at *;omega
    .exact(hH1.keep hfin).app (k3.app (hH3.keep hfin))
    .show(a++x::b).take s.2.2.2.1++(_++(a++x::b).drop s.2.2.2.2)≠[];rw[s1,s2];intro e;have e':=qab List.length e;simp only[qan,qby]at e'
     by_cases h9:s.2.2.1=[]
     .rw[if_pos h9]at s4;omega
     .have:=qbv.2 (u3.ne h9);omega
    .show Bc true ((a++x::b).take s.2.2.2.1++(_++(a++x::b).drop s.2.2.2.2))<=667;rw[s1,s2,BB,BB]
     have:38*(Fc fr s.2.1 r.2.2.1 s.2.2.1).2.2.length<=38*2:=qb7 _ hnum
     omega
   .right;exact u3.back hci2 (by omega)
  .rw[if_pos e3.ne];refine⟨t1,_,hci1,by omega,.inr ?_⟩;exact(e3.back hci (m':=2*h) (by simp)).mono (by omega)
end Go.Proofs.YtcpgbcabmcbclaaGreatDoor
