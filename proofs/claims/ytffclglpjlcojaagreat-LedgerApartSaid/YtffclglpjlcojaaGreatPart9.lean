/- Part 9 of the proof. -/
import Derived.Test.YtffclglpjlcojaaGreatPart8
set_option maxRecDepth 20000
set_option maxHeartbeats 4000000
namespace Go.Proofs.YtffclglpjlcojaaGreat
open Go.GV Go.Proofs.Tryz
attribute [local irreducible] AG W Wq Wt
def pC(d:Du)(x:Int):Int:=if x<0 then 1 else if d.held=true then 14 else if d.am<x then 12 else 0
def pD(d:Du)(x:Int):Du:=if pC d x=0 then{ d with am:=d.am - x }else d
theorem Afy{b7 bx:Nat}{d:Du}{x:Int}(w:World)(h7:w.heap[b7]?=some (Bl 118 (CS d)))(hx:w.heap[bx]?=some (Bl 2 [.int .i64 x]))(ham:0<=d.am/\d.am<=4503599627370496)(hne:bx≠b7:=by omega):
  Ret prog 155 #[ptr b7,ptr bx] w fun v w'=>v=.int .i64 (pC d x)/\Ctx w [b7] w' [(b7,Bl 118 (CS (pD d x)))]:=by
 obtain⟨w0,rfl⟩:=qD w;have H:=Ctx.start1 h7;have hn:bx∉[b7]:=by rw[qab];exact hne
 refine Ay (fn:=f155) func155 U [.pointer (some ⟨b7,0,none⟩),.pointer (some ⟨bx,0,none⟩)] U ?_;refine Ad (Ae U (qA (Ao (A1 (Ad (Bc Bw U ((H.old (Aj hx _) hn)) ?_))))));refine Bm U U (Ai U (qA (An _ U ?_ ?_)))
 .intro h1;replace h1:=AM h1;refine Ad (Ae U (qA (A7 (AF (Av (AD (v:=(.int _ _)) U U U ?_))))));have hp:pC d x=1:=if_pos h1;exact⟨by rw[hp],by unfold pD;rw[hp,if_neg (by decide)];exact H⟩
 .intro h1;replace h1:=AN h1;refine Ad (Ax U (AE U (Ah Jg U (AB Kl U H at0 U (Ai U (qA (An _ U ?_ ?_)))))))
  .intro h2;refine Ad (Ae U (qA (A7 (AF (Av (AD (v:=(.int _ _)) U U U ?_))))));have hp:pC d x=14:=by unfold pC;rw[if_neg (by omega),if_pos h2]
   exact⟨by rw[hp],by unfold pD;rw[hp,if_neg (by decide)];exact H⟩
  .intro h2;refine Dw (fun x=>x=_) Bq U ?_;refine BX Bw U (by rintro _ rfl;exact((H.old (Aj hx _) hn))) ?_;refine B6 U (Bb U (A5 Ez U (Cc Bw U (by rintro _ rfl;exact H.drew) at0 U ?_)));refine Qy U U U (MZ U U (BT ?_));rintro _ rfl;replace H:=H.drew;refine An _ U ?_ ?_
   .intro h3;replace h3:=AM h3;refine Ad (Ae U (qA (A7 (AF (Av (AD (v:=(.int _ _)) U U U ?_))))));have hp:pC d x=12:=by unfold pC;rw[if_neg (by omega),if_neg (by rw[h2];decide),if_pos h3]
    exact⟨by rw[hp],by unfold pD;rw[hp,if_neg (by decide)];exact H⟩
   .intro h3;replace h3:=AN h3;refine Aq (A8 (Aa (Ec 8 Bq U U ?_)));refine B6 U (Bb U (A5 Ez U (Cc Bw U (by rintro _ rfl;exact H.drew) at0 U ?_)));refine BX Bw U (by rintro _ rfl;exact((H.old (Aj hx _) hn))) ?_;refine DY U U (Bb U (A5 Ez U (BT ?_)));replace H:=H.drew;refine Ct (.int _ _) B2 U U U H at0 (by(simp;done)) ?_;rintro w H;refine qA (Ad (Ae U (qA (A7 (AD (v:=(.int _ _)) U U U ?_)))));have hp:pC d x=0:=by unfold pC;rw[if_neg (by omega),if_neg (by rw[h2];decide),if_neg (by omega)]
    exact⟨by rw[hp],by unfold pD;rw[hp,if_pos rfl];exact H⟩
def C6(ds:List Du)(k:Int):Option Du:=ds.find? fun d=>d.id == k
theorem HY(ds:List Du)(k:Int):Ey (dm ds) k=(C6 ds k).map G0:=by
 induction ds with
 |nil=>rfl
 |cons x ds ih =>
  unfold dm Ey C6 at ih |-;rw[qav,qb2,qb2]
  cases h:x.id == k with
  |true=>rfl
  |false=>exact ih
def HO:List Du->Int->Int->List Du
 | [],_,_=>[]
 |d::ds,k,x=>if d.id=k then(if d.am=x then ds else{ d with am:=d.am - x }::ds)else d::HO ds k x
theorem Ab1{ds:List Du}{k x:Int}{d:Du}(h:C6 ds k=some d)(hx:d.am=x:=by omega):L8 (dm ds) k=dm (HO ds k x):=by
 induction ds with
 |nil=>cases h
 |cons y ds ih =>
  unfold C6 at h;rw[qb2]at h
  by_cases e:y.id=k
  .rw[show(y.id == k)=true by simpa using e]at h
   injection h with h
   subst h;unfold HO;rw[if_pos e,if_pos hx];show(if y.id=k then dm ds else _)=_;rw[if_pos e]
  .rw[show(y.id == k)=false by simpa using e]at h;unfold HO;rw[if_neg e];show(if y.id=k then _ else(y.id,G0 y)::L8 (dm ds) k)=_;rw[if_neg e,ih h];rfl
theorem Ab2{ds:List Du}{k x:Int}{d:Du}(h:C6 ds k=some d)(hx:¬d.am=x):Me (dm ds) k (G0 { d with am:=d.am - x })=dm (HO ds k x):=by
 induction ds with
 |nil=>cases h
 |cons y ds ih =>
  unfold C6 at h;rw[qb2]at h
  by_cases e:y.id=k
  .rw[show(y.id == k)=true by simpa using e]at h
   injection h with h
   subst h;unfold HO;rw[if_pos e,if_neg hx];show(if y.id=k then(k,_)::dm ds else _)=_;rw[if_pos e,<-e];rfl
  .rw[show(y.id == k)=false by simpa using e]at h;unfold HO;rw[if_neg e];show(if y.id=k then _ else(y.id,G0 y)::Me (dm ds) k _)=_;rw[if_neg e,ih h];rfl
def NK(ds:List Du)(k x:Int):Int:=match C6 ds k with
 |none=>11
 |some d=>pC d x
def TZ(ds:List Du)(k x:Int):List Du:=if NK ds k x=0 then HO ds k x else ds
def payF(bx:Nat):Value := .func (.func 155) #[] #[ptr bx]
theorem Yr{bd b bx:Nat}{nx k x:Int}{o:Obj}{ds:List Du}(w:World)(hd:w.heap[bd]?=some (Bl 132 (DU b nx)))(hb:w.heap[b]?=some o)(hM:CY .u64 (dm ds) o)(hbd:bd≠b)(hf:C6 ds k=none) :
  Ret prog 113 #[ptr bd,.int .u64 k,payF bx] w fun v w'=>v=.int .i64 (NK ds k x)/\∃o',CY .u64 (dm (TZ ds k x)) o'/\Ctx w [b] w' [(b,o')]:=by
 obtain⟨w0,rfl⟩:=qD w;have H:=Ctx.start1 hb;have hc:NK ds k x=11:=by unfold NK;rw[hf]
 have hmg:Ey (dm ds) k=none:=by rw[HY,hf];rfl
 unfold TZ;rw[hc,if_neg (by decide)];refine Ay (fn:=f113) func113 U [.pointer (some ⟨bd,0,none⟩),.int .u64 k,.func (.func 155) #[] #[.pointer (some ⟨bx,0,none⟩)]] U ?_;refine Ad (Ae U (qA (Ao (Ad (Ax U (Cu Ls U ?_))))));refine qA (An _ U ?_ ?_)
 .intro h0;cases h0
 .intro h0;refine Aq (Aa (Ad (Ax U (AE U (Ah DO U (Bc Ft U ((H.old (Aj hd _) (by rw[qab];exact hbd))) ?_))))));refine Af U (Ha U FG Fk LD U U H at0 hM ?_);rw[hmg];rw[Option.getD_none,Option.isSome_none];refine Cb U (AJ U U (AJ U U (AU D4 H ?_)));rintro b7 w - H;refine Bj BO U U U (by exact CW d00) H at0 U ?_;rintro w H;refine Ai U (qA (Ao (Ad (Aw U (BE U (qA (An _ U ?_ ?_)))))))
  .intro h1;replace h1:=B7 h1;refine Ad (Ae U (qA (A7 (Av (AD (v:=(.int _ _)) U U U ?_)))));exact⟨rfl,o,hM,H.tail⟩
  .intro h1;replace h1:=B9 h1;cases h1
theorem GI{ds:List Du}{k:Int}{d:Du}(h:C6 ds k=some d):d∈ds/\d.id=k:=by
 have h1:=List.mem_of_find?_eq_some h;have h2:=List.find?_some h;exact⟨h1,by simpa using h2⟩
theorem Ab3(d:Du)(x:Int):pC d x=1\/pC d x=14\/pC d x=12\/(pC d x=0/\0<=x/\x<=d.am/\d.held=false):=by
 unfold pC
 split
 .exact .inl U
 .split
  .exact .inr (.inl U)
  .rename_i h2
   split
   .exact .inr (.inr (.inl U))
   .exact .inr (.inr (.inr ⟨rfl,by omega,by omega,by simpa using h2⟩))
theorem Ys{bd b bx:Nat}{nx k x:Int}{o:Obj}{ds:List Du}{d:Du}(w:World)(hd:w.heap[bd]?=some (Bl 132 (DU b nx)))(hb:w.heap[b]?=some o)(hM:CY .u64 (dm ds) o)(hbd:bd≠b)(hf:C6 ds k=some d)(hx:w.heap[bx]?=some (Bl 2 [.int .i64 x]))(hbx:bx≠b)(ham:0<=d.am/\d.am<=4503599627370496) :
  Ret prog 113 #[ptr bd,.int .u64 k,payF bx] w fun v w'=>v=.int .i64 (NK ds k x)/\∃o',CY .u64 (dm (TZ ds k x)) o'/\Ctx w [b] w' [(b,o')]:=by
 obtain⟨w0,rfl⟩:=qD w;have H:=Ctx.start1 hb;have hxl:=AY hx;have hc:NK ds k x=pC d x:=by unfold NK;rw[hf]
 have hmg:Ey (dm ds) k=some (G0 d):=by rw[HY,hf];rfl
 have hcs:=Ab3 d x;unfold TZ;rw[hc];obtain⟨code,hcode⟩:=qD (pC d x);obtain⟨e,he⟩:=qD (pD d x);have heam:code=0->e={ d with am:=d.am - x }:=fun h=>by rw[he];unfold pD;rw[if_pos (by omega)]
 rw[<-hcode]at hcs;rw[<-hcode];refine Ay (fn:=f113) func113 U [.pointer (some ⟨bd,0,none⟩),.int .u64 k,.func (.func 155) #[] #[.pointer (some ⟨bx,0,none⟩)]] U ?_;refine Ad (Ae U (qA (Ao (Ad (Ax U (Cu Ls U ?_))))));refine qA (An _ U ?_ ?_)
 .intro h0;cases h0
 .intro h0;refine Aq (Aa (Ad (Ax U (AE U (Ah DO U (Bc Ft U ((H.old (Aj hd _) (by rw[qab];exact hbd))) ?_))))));refine Af U (Ha U FG Fk LD U U H at0 hM ?_);rw[hmg];rw[Option.getD_some,Option.isSome_some];refine Cb U (AJ U U (AJ U U (AU D4 H ?_)));rintro b7 w - H;refine Bj BO U U U (by exact CW _) H at0 U ?_;rintro w H;refine Ai U (qA (Ao (Ad (Aw U (BE U (qA (An _ U ?_ ?_)))))))
  .intro h1;replace h1:=B7 h1;cases h1
  .intro h1;replace h1:=B9 h1;refine Aq (Aa (Ad (CU (.func _ _ _) U ?_)));have hb7:w0.heap.size<=b7:=(H.own _ (qai ..)).elim (fun h=>by have h8:=H.ne at0 at1 (by decide);exact absurd (qab.1 h) h8) id;refine FI U qB (Afy (x:=x) (d:=d) _ (H.get at0) (H.ext.to hx (by rw[qab];exact hbx)) ham) U ?_;rintro v w ⟨rfl,H2⟩;replace H:=Ctx.back (L1:=[_]) (L2:=[_]) H H2;rw[<-hcode];rw[<-he]at H;refine Ae U (qA (Ao (A1 (Ad (Af U (Cv U U (Ai U (qA (An _ U ?_ ?_)))))))))
   .intro h2;replace h2:=Cy h2;refine Aq (A8 (Aa (Ad (Af U (Ae U (qA (A7 (AD (v:=(.int _ _)) U U U ?_))))))));rw[if_neg h2];exact⟨rfl,o,hM,H.tail⟩
   .intro h2;replace h2:=Cz h2;have h2':code=0:=by omega
    have hee:=heam h2';have hea:e.am=d.am - x:=by rw[hee]
    rw[if_pos h2'];refine Ad (Ah Ez U (AB Bw U H at0 U (BP U U (Ai U (qA (An _ U ?_ ?_))))))
    .intro h3;replace h3:=AM h3;refine A0 (Ax U (AE U (Ah DO U (Bc Ft U ((H.old (Aj hd _) (by rw[qab];exact hbd))) ?_))));refine Af U (Nc U FG Fk U U H at1 hM ?_);rintro o2 w hM2 H;refine Ab (A8 (Aa (Ad (Af U (Ae U (qA (A7 (AD (v:=(.int _ _)) U U U ?_))))))));exact⟨rfl,o2,by rw[<-Ab1 hf];exact hM2,H.tail⟩
    .intro h3;replace h3:=AN h3;refine FX 6 Bq U U ?_;refine B6 U (Bb U (A5 DO U (BX Ft U (by rintro _ rfl;exact((H.old (Aj hd _) (by rw[qab];exact hbd)))) ?_)));refine AX U (Ox U DT BO U (by rintro _ rfl;exact H.drew) at0 U ?_);refine BT ?_;replace H:=H.drew;refine J2 (G0 e) U FG Fk U U U H at1 hM ?_;rintro o2 w hM2 H;refine Ab (A8 (Aa (Ad (Af U (Ae U (qA (A7 (AD (v:=(.int _ _)) U U U ?_))))))));exact⟨rfl,o2,by rw[<-Ab2 hf (show ¬d.am=x by omega),<-hee];exact hM2,H.tail⟩
theorem Ab4{bd b bx:Nat}{nx k x:Int}{o:Obj}{ds:List Du}(w:World)(hd:w.heap[bd]?=some (Bl 132 (DU b nx)))(hb:w.heap[b]?=some o)(hM:CY .u64 (dm ds) o)(hbd:bd≠b)(hx:w.heap[bx]?=some (Bl 2 [.int .i64 x]))(ham:∀d∈ds,0<=d.am/\d.am<=4503599627370496)(hbx:bx≠b:=by omega):
  Ret prog 113 #[ptr bd,.int .u64 k,payF bx] w fun v w'=>v=.int .i64 (NK ds k x)/\∃o',CY .u64 (dm (TZ ds k x)) o'/\Ctx w [b] w' [(b,o')]:=by
 cases hf:C6 ds k with
 |none=>exact Yr w hd hb hM hbd hf
 |some d=>exact Ys w hd hb hM hbd hf hx hbx (ham d (GI hf).1)
theorem Afz{bd b:Nat}{nx k x:Int}{o:Obj}{ds:List Du}(w:World)(hd:w.heap[bd]?=some (Bl 132 (DU b nx)))(hb:w.heap[b]?=some o)(hM:CY .u64 (dm ds) o)(hbd:bd≠b)(ham:∀d∈ds,0<=d.am/\d.am<=4503599627370496) :
  Ret prog 121 #[ptr bd,.int .u64 k,.int .i64 x] w fun v w'=>v=.int .i64 (NK ds k x)/\∃o',CY .u64 (dm (TZ ds k x)) o'/\Ctx w [b] w' [(b,o')]:=by
 obtain⟨w0,rfl,H⟩:=qE w;have hbl:=AY hb;refine Ay (fn:=f121) func121 U [.pointer (some ⟨bd,0,none⟩),.int .u64 k,.int .i64 x] U ?_;refine Ad (Br _ (.int _ _) U U H ?_);rintro b5 w - H;refine Ae U (qA (Ad (Ax U (Af U (Cf [.pointer _] U ?_)))));have hb5:w0.heap.size<=b5:=(H.own _ (qai ..)).elim (fun h=>by cases h) id;refine Al qB (Ab4 (x:=x) _ (H.ext.to hd (by simp)) (H.ext.to hb (by simp)) hM hbd (H.get at0) ham) U ?_;rintro v w ⟨rfl,o',hM',H2⟩;refine Ae U (qA (A7 (AD (v:=(.int _ _)) U U U ?_)));have H3:=H.ext.mono (S':=[b]) (by simp);exact⟨rfl,o',hM',⟨H3.trans H2.ext,H2.blk,H2.nd,fun y hy=>by rw[qab.1 hy];exact .inl (qab.2 rfl)⟩⟩
structure PlD(ds:List Du)(k:Int)(i:Nat)(d:Du):Prop where
 at':ds[i]?=some d
 id:d.id=k
 fst:∀(j:Nat) (e:Du),j<i->ds[j]?=some e->e.id≠k
theorem PlD.pay{ds:List Du}{k x:Int}{i:Nat}{d:Du}(h:PlD ds k i d):HO ds k x=if d.am=x then ds.eraseIdx i else ds.set i { d with am:=d.am - x }:=by
 induction ds generalizing i with
 |nil=>have:=h.at';cases this
 |cons y ds ih =>
  unfold HO
  cases i with
  |zero =>
   have h1:=h.at'
   injection h1 with h1
   rw[h1,if_pos h.id];rfl
  |succ i =>
   have h1:=h.fst 0 y (Nat.succ_pos _) rfl;rw[if_neg h1,ih ⟨h.at',h.id,fun j e hj he=>h.fst (j+1) e (Nat.succ_lt_succ hj) he⟩]
   split <;> rfl
theorem Yt(a:Option Addr)(n c:Nat)(ds:List Du)(w:World)(R:Rd w a 7 CS ds)(hn:ds.length=n)(hm:n<=1000000000:=by omega):
  Ret prog 158 #[.slice a n c] w fun v w'=>Fresh w w' 118 7 v (ds.flatMap CS):=by
 subst hn;obtain⟨w0,rfl,H⟩:=qE w;refine Ay (fn:=f158) func158 U [.slice a ds.length c] U (Ad (A4 U (qA (Ao (Ad (A2 U (Ja U Dh U (qA (An _ U ?_ ?_)))))))))
 .intro h1;have ha:a=none:=by simpa using h1
  subst ha
  have hxs:ds=[]:=by
   cases ds with
   |nil=>rfl
   |cons x xs=>obtain⟨b,o,h⟩:=R.some' (by simp);cases h
  subst hxs;refine Ad (A4 U (qA (A7 (Av (AD (v:=(.slice _ _ _)) U U U ?_)))));exact Fresh.nil H _ _
 .intro h1;refine Aq (Aa (Ad (GA Dh BO H ?_)));rintro b5 w H O;refine A2 U (G9 U Dh Dh BO Vh D4 U (ds.flatMap CS) U U H O (P9 ds) (Yq ds) ((R.ext0 H.ext).app (fun _ _=>rfl) (by omega)) ?_);rintro a7 c7 full7 w H O;refine A4 U (qA (A7 (AD (v:=(.slice _ _ _)) U U U ?_)));exact H.fresh O
theorem Ua(d:Du)(w:World):Ret prog 159 #[G0 d] w fun v w'=>v=.bool d.held/\Ext [] w w':=by
 obtain⟨w0,rfl,H⟩:=qE w;refine Ay (fn:=f159) func159 U [G0 d] U (Ad (Br (CS d) (.agg _) U U H ?_));rintro b1 w - H;refine Ai U (qA (Ad (Ah Jg U (AB Kl U H at0 U (Ai U (qA (A7 (AD (v:=(.bool _)) U U U ?_))))))));exact⟨rfl,H.ext⟩
abbrev Ahs:Value := .func (.func 159) #[] #[]
structure FstH(ds:List Du)(i:Nat):Prop where
 at':∃d,ds[i]?=some d/\d.held=true
 fst:∀(j:Nat) (e:Du),j<i->ds[j]?=some e->e.held=false
theorem Af0(a:Option Addr)(n c:Nat)(ds:List Du)(w:World)(R:Rd w a 7 CS ds)(hn:ds.length=n)(hn2:n<=1000000) :
  Ret prog 180 #[.slice a n c,Ahs] w fun v w'=>Ext [] w w'/\((v=.int .i64 (-1)/\∀d∈ds,d.held=false)\/∃i:Nat,v=.int .i64 (i:Int)/\FstH ds i):=by
 subst hn;obtain⟨w0,rfl,H⟩:=qE w;refine Ay (fn:=f180) func180 U [.slice a ds.length c,.func (.func 159) #[] #[]] U (Ad (Ae U (qA (Ao (Ad (A2 U (Ba Dh U (Af U (qA (A1 ?_))))))))));refine Bt 524080 (α:=Nat) (fun i=>[(8,.int .i64 (i:Int))]) (fun i w'=>i<=ds.length/\Ctx w0 [] w' []/\∀(j:Nat) (e:Du),j<i->ds[j]?=some e->e.held=false) (fun i=>ds.length - i) 0 U ?_ ?_ ?_
 .exact⟨rfl,trivial⟩
 .exact⟨qaj _,H,fun j e h=>absurd h (qa7 _)⟩
 .clear H;rintro i j w ⟨hi,H,hb⟩;refine Ad (Bm U U (qA (Ao (An _ U ?_ ?_))))
  .intro h1;replace h1:=AM h1;obtain⟨d,hd2⟩:=AA (l:=ds) (i:=i);refine Aq (Aa (Ao (A1 (Ad (Af U (Ae U (qA (Ad (CU (.func _ _ _) U ?_)))))))));refine A2 U (Af U (Be R Dh BO U U (by rfl) ?_));refine BQ _ DT BO U U ((R.ext0 H.ext).row hd2 U) (FI U qB (Ua d _) U ?_);rintro v w ⟨rfl,hx16⟩;replace H:=H.call hx16;refine qA (An _ U ?_ ?_)
   .intro h2;refine Ad (Af U (Ae U (qA (A7 (AF (Av (Av (AF (Av (AD (v:=(.int _ _)) U U U ?_))))))))));exact⟨H.ext,.inr ⟨i,rfl,⟨d,hd2,h2⟩,hb⟩⟩
   .intro h2;refine Aq (A8 (Aa (A0 (Az U U ?_))));refine Af U (qA ?_);refine⟨i+1,rfl,⟨rfl,trivial⟩,⟨by omega,H,fun j e hj he=>?_⟩,by omega⟩
    rcases qap j i with h7|h7
    .exact hb j e h7 he
    .obtain rfl:j=i:=by omega
     rw[hd2]at he;cases he;exact h2
  .intro h1;replace h1:=AN h1;refine Bp (Am (Am (AO (Aa (Ad (Ae U (qA (A7 (AD (v:=(.int _ _)) U U U ?_)))))))));refine⟨H.ext,.inl ⟨rfl,fun d hd=>?_⟩⟩;obtain⟨j,hj⟩:=qbs.1 hd;exact hb j d (by have:=C0 hj;omega) hj
def opn(ds:List Du):List Du:=ds.filter fun d => !d.held
theorem QW:∀(vs l:List Value) (o k:Nat),k<=o->(over l o vs).take k=l.take k
 | [],_,_,_,_=>rfl
 |v::vs,l,o,k,h=>by
  show(over (l.set o v) (o+1) vs).take k=_;rw[QW vs (l.set o v) (o+1) k (by omega)];refine qb0 fun j=>?_;rw[qbv,qbv]
  split
  .rw[qbo (by omega)]
  .rfl
theorem OS.shrink{α:Type}{a:Option Addr}{n c s i:Nat}{full vs:List Value}{enc:α->List Value}{L:List α}{o:Nat}(O:OS a n c s full (L.flatMap enc))(hs:∀x∈L,(enc x).length=s)(hi:i<=n)(hL:L.length=n)(ho:vs=[]\/i*s<=o):OS a i c s (Go.GV.over full o vs) ((L.take i).flatMap enc):=by
 refine⟨O.zero,O.none',by rw[DB];exact O.len,qa0 hi O.le,?_⟩
 have h1:(Go.GV.over full o vs).take (i*s)=full.take (i*s):=by
  rcases ho with rfl|ho
  .rfl
  .exact QW _ _ _ _ ho
 rw[h1]
 have h2:full.take (i*s)=(full.take (n*s)).take (i*s):=by
  rw[List.take_take,qb7 (qch _ hi)]
 rw[h2,O.pre];have h3:L.flatMap enc=(L.take i).flatMap enc++(L.drop i).flatMap enc:=by rw[<-qb1,qbp]
 have h4:((L.take i).flatMap enc).length=i*s:=by
  rw[EY fun z hz=>hs z (qdv hz),qbm,qb7 (by omega)]
 rw[h3];exact qci h4
theorem PA(ds:List Du)(d:Du):opn (ds++[d])=opn ds++if d.held=true then[]else[d]:=by
 unfold opn;rw[qcc];cases h:d.held <;> simp[h]
theorem WK{ds:List Du}(h:∀d∈ds,d.held=false):opn ds=ds:=by
 unfold opn;rw[List.filter_eq_self];intro d hd;rw[h d hd];rfl
structure DSt where
 i:Nat
 j:Nat
 L:List Du
 full:List Value
theorem Alc(a:Option Addr)(c:Nat)(full:List Value)(ds:List Du)(w:World)(O:OS a ds.length c 7 full (ds.flatMap CS))(hb:∀y∈ent a 118 full,w.heap[y.1]?=some y.2)(hn2:ds.length<=1000000) :
  Ret prog 157 #[.slice a ds.length c,Ahs] w fun v w'=>∃full',v=.slice a (opn ds).length c/\OS a (opn ds).length c 7 full' ((opn ds).flatMap CS)/\Ctx w ((ent a 118 full).map (·.1)) w' (ent a 118 full'):=by
 obtain⟨w0,rfl⟩:=qD w;have R:Rd w0 a 7 CS ds:=OS.rd O hb (fun _ _=>rfl) (by omega);have H:Ctx w0 ((ent a 118 full).map (·.1)) w0 (ent a 118 full):=⟨Ext.refl _ _,hb,FY,fun x hx => .inl (qa5 (f:=(·.1)) hx)⟩;refine Ay (fn:=f157) func157 U [.slice a ds.length c,.func (.func 159) #[] #[]] U (Ad (A4 U (qA (Ad (A2 U (CU (.func _ _ _) U ?_))))));refine Al qB (Af0 a ds.length c ds _ R U hn2) U ?_;rintro v w ⟨hx10,hidx⟩;replace H:=H.call hx10;obtain⟨pi,rfl,hpi⟩:∃pi:Int,v=.int .i64 pi/\((pi = -1/\∀d∈ds,d.held=false)\/∃i:Nat,pi=(i:Int)/\FstH ds i):=hidx.elim (fun h=>⟨-1,h.1,.inl ⟨rfl,h.2⟩⟩) (fun⟨i,h1,h2⟩=>⟨i,h1,.inr ⟨i,rfl,h2⟩⟩);refine Ae U (qA (Ao (Ad (Af U (BP U U (qA (An _ U ?_ ?_)))))))
 .intro h1;replace h1:=AM h1;refine Ad (A2 U (A4 U (qA (A7 (Av (AD (v:=(.slice _ _ _)) U U U ?_))))));have hal:∀d∈ds,d.held=false:=hpi.elim (fun h=>h.2) fun⟨i,h,_⟩=>by omega
  rw[WK hal];exact⟨full,rfl,O,H⟩
 .intro h1;replace h1:=AN h1;obtain⟨i,hpe,P⟩:∃i:Nat,pi=(i:Int)/\FstH ds i:=hpi.elim (fun h=>absurd h.1 h1) id;subst hpe;obtain⟨d0,hd0,hh0⟩:=P.at';have hil:=C0 hd0;obtain⟨q,rfl⟩:=O.form (by omega);replace H:Ctx w0 [q] w [(q,Bl 118 full)]:=H
  have hop0:opn (ds.take i)=ds.take i:=WK fun d hd=>by
   obtain⟨j,hj⟩:=qbs.1 hd;rw[qbv]at hj
   split at hj
   .exact P.fst j d (by assumption) hj
   .cases hj
  have hst0:opn (ds.take (i+1))=ds.take i:=by
   rw[qbw,hd0];show opn (ds.take i++[d0])=_;rw[PA,if_pos hh0,hop0,qa3]
  refine Aq (Aa (Ao (Ad (Af U (Az U U ?_)))));refine Ae U (qA (A1 (Bt 68719411424 (α:=DSt) (fun t=>[(5,.int .i64 (t.i:Int)),(6,.int .i64 (t.j:Int))]) (fun t w'=>t.i<t.j/\t.j<=ds.length/\t.L.length=ds.length/\t.L.take t.i=opn (ds.take t.j)/\(∀p,t.j<=p->t.L[p]?=ds[p]?)/\OS (some ⟨q,0,none⟩) ds.length c 7 t.full (t.L.flatMap CS)/\Ctx w0 [q] w' [(q,Bl 118 t.full)]) (fun t=>ds.length - t.j) ⟨i,i+1,ds,full⟩ U ?_ ?_ ?_)))
  .exact⟨rfl,rfl,trivial⟩
  .exact⟨Nat.lt_succ_self _,by dsimp only;omega,rfl,hst0.symm,fun p _=>rfl,O,H⟩
  .clear H;rintro⟨i,j,L,fu⟩ jj w ⟨hij,hj,hL,hT,hS,O1,H⟩;dsimp only at hij hj hL hT hS O1 H;dsimp only;have hOl:=O1.len;have hOle:=O1.le;refine Ao (Ad (Af U (A2 U (Ba Dh U (Bm U U (qA (An _ U ?_ ?_)))))))
   .intro h2;replace h2:=AM h2;obtain⟨d,hdj⟩:=AA (l:=ds) (i:=j);have hLd:L[j]?=some d:=by rw[hS j (qan _),hdj]
    have R1:Rd w (some ⟨q,0,none⟩) 7 CS L:=O1.rd (t:=118) (fun y hy=>by have hy:=qab.1 hy;rw[hy];exact H.get at0) (fun _ _=>rfl) (by decide);have htk:ds.take (j+1)=ds.take j++[d]:=by rw[qbw,hdj];rfl
    refine Aq (Aa (Ao (A1 (Ad (A2 U (Af U (Be R1 Dh BO U U (by omega) ?_)))))));refine BQ _ DT BO U U (R1.row hLd U) (AU D4 H ?_);rintro b7 w - H;refine Bj BO U U U (by exact CW _) H at0 U ?_;rintro w H;refine qA (Ad (CU (.func _ _ _) U ?_));refine Cj DT BO U H at0 U (FI U qB (Ua d _) U ?_);rintro v w ⟨rfl,hx28⟩;replace H:=H.call hx28;refine BE U (qA (An _ U ?_ ?_))
    .intro h3;replace h3:=B7 h3;have h3':¬d.held=true:=by simpa using h3
     obtain⟨y,hy⟩:=AA (l:=L) (i:=i);have O2:=OS.over O1 (fun _=>rfl) hy d;refine Ad (A2 U (Af U (Cj DT BO U H at0 U (Be R1 Dh BO U U (by omega) ?_))));refine HG (vs:=CS d) U BO U U U (CW d) H at1 (by show 0+(i:Int).toNat*7+7<=_;omega) ?_;rintro w H;replace H:Ctx w0 [q] w [(b7,Bl 118 (CS d)),(q,Bl 118 (over fu (i*7) (CS d)))]:=by rw[show i*7=0+((i:Int)).toNat*7 by omega];exact H
     refine qA (A0 (Af U (Az U U ?_)));refine Ae U (Ab (A8 (Aa (A0 (Af U (Az U U ?_))))));refine Ae U (qA ?_);refine⟨⟨i+1,j+1,L.set i d,over fu (i*7) (CS d)⟩,rfl,⟨rfl,rfl,trivial⟩,⟨by dsimp only;omega,by dsimp only;omega,by dsimp only;rw[qb6];exact hL,?_,fun p hp=>?_,O2,?_⟩,by dsimp only;omega⟩
     .dsimp only;rw[htk,PA,if_neg h3',<-hT,qbw,qc1 (by omega)]
      congr 1
      refine qb0 fun z=>?_;rw[qbv,qbv]
      split
      .rw[qbo (by omega)]
      .rfl
     .dsimp only at hp |-;rw[qbo (by omega)];exact hS p (by omega)
     .exact H.tail
    .intro h3;replace h3:=B9 h3;have h3':d.held=true:=by simpa using h3
     refine Aq (A8 (Aa (A0 (Af U (Az U U ?_)))));refine Ae U (qA ?_);refine⟨⟨i,j+1,L,fu⟩,rfl,⟨rfl,rfl,trivial⟩,⟨by dsimp only;omega,by dsimp only;omega,hL,?_,fun p hp=>hS p (by dsimp only at hp;omega),O1,H.tail⟩,by dsimp only;omega⟩;dsimp only;rw[htk,PA,if_pos h3',qa3];exact hT
   .intro h2;replace h2:=AN h2;obtain rfl:j=ds.length:=by omega
    rw[qbj]at hT;have hlen:(opn ds).length=i:=by rw[<-hT,qbm];omega
    obtain⟨o',ho',ho2⟩:∃o',UR (some ⟨q,0,none⟩) c i 7=some ⟨q,o',none⟩/\((c=i/\o'=0)\/o'=i*7):=by
     unfold UR
     by_cases h:c=i
     .rw[if_pos h];exact⟨0,rfl,.inl ⟨h,rfl⟩⟩
     .rw[if_neg h];exact⟨0+i*7,(by show some (Addr.add _ _)=_;rw[CV]),.inr (qa4 _)⟩
    refine Bp (Am (Am (AO (Aa (Ad (A2 U (Af U (Tl U Dh BO U U ?_))))))));refine Q3 (b:=q) (o:=o') (n:=ds.length - i) (c:=c - i) (s:=7) U Dh D4 U (by simp[AZ]) (show Value.slice (UR (some ⟨q,0,none⟩) c i 7) (ds.length - i) (c - i)=_ by rw[ho']) H at0 (by omega) ?_;rintro w H;refine qA (Ad (A2 U (Af U (Ke U Dh BO U U ?_))));refine A4 U (qA (A7 (AD (v:=(.slice _ _ _)) U U U ?_)));have O3:=OS.shrink (i:=i) (o:=o') (vs:=(List.replicate (ds.length - i) [Value.int .u64 0,.int .i64 0,.int .i64 0,.int .i64 0,.int .i64 0,.int .i64 0,.bool false]).flatten) O1 (fun _ _=>rfl) (by omega) hL (ho2.elim (fun h=>by omega) fun h => .inr (by omega));rw[hT]at O3;rw[hlen];exact⟨_,rfl,O3,H⟩
theorem WL(a:Option Addr)(n c:Nat)(ds:List Du)(w:World)(R:Rd w a 7 CS ds)(hn:ds.length=n)(hm:n<=1000000) :
  Ret prog 124 #[.slice a n c] w fun v w'=>Fresh w w' 118 7 v ((opn ds).flatMap CS):=by
 subst hn;obtain⟨w0,rfl⟩:=qD w;refine Ay (fn:=f124) func124 U [.slice a ds.length c] U (Ad (A4 U (qA (Ad (A2 U (Al qB (Yt a ds.length c ds _ R U) U ?_))))));rintro v w F;obtain⟨a4,n4,c4,f4,rfl,O4,hb4⟩:=F.ex;have hl4:=O4.llen;rw[P9]at hl4;obtain rfl:ds.length=n4:=by omega
 refine Al qB (Alc a4 c4 f4 ds _ O4 (fun y hy=>(hb4 y hy).1) hm) U ?_;rintro v w ⟨f5,rfl,O5,H5⟩;refine A4 U (qA (A7 (AD (v:=(.slice _ _ _)) U U U ?_)));refine⟨⟨_,_,_,f5,rfl,O5,fun x hx=>⟨H5.blk x hx,?_⟩⟩,F.ext.then H5.ext fun x hx=>?_⟩
 .rcases H5.own x hx with h|h
  .obtain⟨y,hy,hyx⟩:=qag.1 h;rw[<-hyx];exact(hb4 y hy).2
  .exact qa0 F.ext.size h
 .obtain⟨y,hy,rfl⟩:=qag.1 hx;exact .inr (hb4 y hy).2
def EI:Nat->List Du->List Du
 |_,[]=>[]
 |i,d::ds=>{ d with id:=(i:Int)+1 }::EI (i+1) ds
theorem QX(i:Nat)(ds:List Du):(EI i ds).length=ds.length:=by
 induction ds generalizing i with
 |nil=>rfl
 |cons d ds ih=>show(EI (i+1) ds).length+1=ds.length+1;rw[ih]
theorem SF(i:Nat)(ds es:List Du):EI i (ds++es)=EI i ds++EI (i+ds.length) es:=by
 induction ds generalizing i with
 |nil=>rfl
 |cons d ds ih =>
  show _::EI (i+1) (ds++es)=_::(EI (i+1) ds++EI (i+(ds.length+1)) es);rw[ih,show i+1+ds.length=i+(ds.length+1)by omega]
theorem VG{ds:List Du}{i:Nat}{d:Du}(h:ds[i]?=some d):EI 0 (ds.take (i+1))=EI 0 (ds.take i)++[{ d with id:=(i:Int)+1 }]:=by
 have hl:=C0 h;rw[qbw,h];show EI 0 (ds.take i++[d])=_;rw[SF,qbm,qb7 (by omega),qa4];rfl
theorem Ab5{ds:List Du}:∀(i:Nat) (d:Du),d∈EI i ds->(i:Int)<d.id/\d.id<=i+ds.length:=by
 induction ds with
 |nil=>intro i d h;cases h
 |cons x ds ih =>
  intro i d h
  rcases qae.1 h with rfl|h
  .dsimp only[List.length_cons];omega
  .have:=ih (i+1) d h;rw[qa8];omega
theorem Yu{ds:List Du}:∀(i:Nat),FP ((i:Int)+ds.length+1) i (EI i ds)=ds.all Es:=by
 induction ds with
 |nil=>intro i;rfl
 |cons d ds ih =>
  intro i;have h:=ih (i+1);show((Es d && (decide ((i:Int)<(i:Int)+1) && decide ((i:Int)+1<_))) && FP _ ((i:Int)+1) (EI (i+1) ds))=(Es d && ds.all Es);rw[<-h,qar (show(i:Int)<(i:Int)+1 by omega),qar (show(i:Int)+1<(i:Int)+((d::ds).length:Nat)+1 by rw[qa8];omega),show((i:Int)+((d::ds).length:Nat)+1)=(((i+1:Nat):Int)+ds.length+1)by rw[qa8];omega];simp
def D5(rs:List Int)(ds:List Du):Bool :=
 decide (rs.length<=16) && (!decide ((ER rs).2=1) && (ds.all (fun d=>decide (max d.fr d.to<rs.length)) && decide (ofC (EI 0 ds) (ds.length+1)=0)))
theorem Yv{rs:List Int}{ds:List Du}{i:Nat}{d:Du}(hd:ds[i]?=some d)(h:¬max d.fr d.to<rs.length):D5 rs ds=false:=by
 unfold D5
 have:ds.all (fun d=>decide (max d.fr d.to<rs.length))=false:=by
  rw[List.all_eq_false];exact⟨d,qac hd,by simpa using h⟩
 rw[this];simp
theorem Yw(a b:Option Addr)(n c m e:Nat)(rs:List Int)(ds:List Du)(w:World)(R:Rd w a 1 I1 rs)(hn:rs.length=n)(hn2:n<=1000000)(Rd':Rd w b 7 CS ds)(hm:ds.length=m)(hm2:m<=1000000) :
  Ret prog 140 #[.slice a n c,.slice b m e] w fun v w'=>v=.bool (D5 rs ds)/\Ext [] w w':=by
 subst hn hm;obtain⟨w0,rfl,H⟩:=qE w;obtain⟨tt,htt⟩:=qD (ER rs);refine Ay (fn:=f140) func140 U [.slice a rs.length c,.slice b ds.length e] U (Ad (Ai U (qA (Ao (Ad (A2 U (Ba AV U (CD U U (qA (An _ U ?_ ?_))))))))))
 .intro h1;replace h1:=AM h1;refine Ad (Ai U (qA (A7 (Av (AD (v:=(.bool _)) U U U ?_)))));exact⟨qaa Value.bool (by unfold D5;rw[qbb (show ¬rs.length<=16 by omega)];rfl),H.ext⟩
 .intro h1;replace h1:=AN h1;have h1':decide (rs.length<=16)=true:=qar (by omega);refine Aq (Aa (Ao (Ad (A2 U (Al qB (Le a rs.length c rs _ R U (hn2:=hn2)) U ?_)))));rintro v w ⟨rfl,rfl⟩;rw[<-htt];refine Cb U (AJ U U (AJ U U (Ae U (Ae U (qA (Ad (Af U (BP U U (qA ?_)))))))));refine An _ U ?_ ?_
  .intro h2;replace h2:=AM h2;refine Ad (Ai U (qA (A7 (Av (AD (v:=(.bool _)) U U U ?_)))));exact⟨qaa Value.bool (by unfold D5;rw[<-htt,h2,h1'];rfl),H.ext⟩
  .intro h2;replace h2:=AN h2;refine Aq (Aa (Ad (A4 U (qA (Ao (Ad (A2 U (Ba Dh U (Af U (qA ?_))))))))));refine A1 (Bt 70368727401360 (α:=LSt) (fun t=>[(7,.slice t.a t.i t.c),(24,.int .i64 (t.i:Int))]) (fun t w'=>t.i<=ds.length/\OS t.a t.i t.c 7 t.full ((EI 0 (ds.take t.i)).flatMap CS)/\Ctx w0 [] w' (ent t.a 118 t.full)/\∀(j:Nat) (d:Du),j<t.i->ds[j]?=some d->max d.fr d.to<rs.length) (fun t=>ds.length - t.i) ⟨0,none,0,[]⟩ U ?_ ?_ ?_)
   .exact⟨rfl,rfl,trivial⟩
   .exact⟨qaj _,OS.nil,H,fun j d h=>absurd h (qa7 _)⟩
   .clear H;rintro⟨i,a2,c2,full⟩ jj w ⟨hi,O,H,hb⟩;dsimp only at hi O H hb;dsimp only;refine Ad (Bm U U (qA (Ao (An _ U ?_ ?_))))
    .intro h3;replace h3:=AM h3;obtain⟨d,hd⟩:=AA (l:=ds) (i:=i);obtain⟨d',hd'⟩:∃d':Du,d'={ d with id:=(i:Int)+1 }:=⟨_,rfl⟩;refine Aq (Aa (Ao (A1 (Ad (Af U (Be Rd' Dh BO U U (by rfl) ?_))))));refine BQ _ DT BO U U ((Rd'.ext0 H.ext).row hd U) (AU D4 H ?_);rintro b9 w - H;refine Ae U (Bj BO U U U (by exact CW _) H at0 U ?_);rintro w H;refine qA (Ao (Ad (Ah Gw U (AB Cd U H at0 U (Ah He U (AB Cd U H at0 U (KQ U U U ?_)))))));refine A2 U (Ba AV U (CG U U (qA (An _ U ?_ ?_))))
     .intro h4;replace h4:=AM h4;refine Ad (Ai U (qA (A7 (Av (AF (Av (Av (AF (Av (AD (v:=(.bool _)) U U U ?_))))))))));exact⟨qaa Value.bool (Yv hd (show ¬max d.fr d.to<rs.length by omega)).symm,H.ext⟩
     .intro h4;replace h4:=AN h4;refine Aq (Aa (Ad (Af U (DX U Ph Fk ?_))));refine Ee U U (Ah FJ U (Ct (.int _ _) Bo U U U H at0 (by(simp;done)) ?_));rintro w H;refine qA ?_;replace H:Ctx w0 [] w ((b9,Bl 118 (CS d'))::ent a2 118 full):=by rw[hd'];exact H
      refine A0 (A2 U (Cj DT BO U H at0 U (Cs _ (.agg _) Dh BO D4 U U U U H ?_)));rintro b43 w - H;refine CI (L:=[_]) Dh Dh BO Vh D4 U U U H O U (by simp[AZ]) ?_;rintro a' c' full' w H O;refine A4 U (Ab (A8 (Aa (A0 (Az U U ?_)))));refine Af U (qA ?_);refine⟨⟨i+1,a',c',full'⟩,rfl,⟨rfl,rfl,trivial⟩,⟨by dsimp only;omega,?_,H.tail,fun j x hj hx=>?_⟩,by dsimp only;omega⟩
      .dsimp only;rw[VG hd,<-hd',qb1];exact O
      .rcases qap j i with h7|h7
       .exact hb j x h7 hx
       .obtain rfl:j=i:=by dsimp only at hj;omega
        rw[hd]at hx;cases hx;omega
    .intro h3;replace h3:=AN h3;obtain rfl:i=ds.length:=by omega
     rw[qbj]at O
     have hal:ds.all (fun d=>decide (max d.fr d.to<rs.length))=true:=by
      rw[qau];intro d hd;obtain⟨j,hj⟩:=qbs.1 hd;exact qar (hb j d (C0 hj) hj)
     have RO:Rd w a2 7 CS (EI 0 ds):=OS.rd O (fun y hy=>H.blk y hy) (fun _ _=>rfl) (by omega)
     have hbr:D5 rs ds=decide (ofC (EI 0 ds) (ds.length+1)=0):=by
      unfold D5;rw[h1',hal,<-htt,qbb h2];rfl
     obtain⟨cd,hcd⟩:=qD (ofC (EI 0 ds) (ds.length+1));rw[hbr,<-hcd];refine Bp (Am (Am (AO (Aa (Ad (A2 U (A2 U (Ba Dh U (DX U Ph Fk ?_)))))))));refine Ee U U (Al qB (Abw a2 ds.length c2 (EI 0 ds) (ds.length+1) _ RO (QX 0 ds) (fun d hd=>by have:=Ab5 0 d hd;omega)) U ?_);rintro v w ⟨p,rfl,hp1,hp2,hx52⟩;obtain⟨pp,rfl⟩:∃pp,p=.pointer pp:=by by_cases hz:ofC (EI 0 ds) (ds.length+1)=0;(obtain⟨bd,_,_,e1,_⟩:=hp2 hz;exact⟨_,e1⟩);exact⟨none,hp1 hz⟩
     replace H:=H.call hx52;rw[<-hcd];refine Cb U (AJ U U (AJ U U (B1 U (Ae U (qA (Ad (Af U (BP U U (Ai U ?_)))))))));refine qA (A7 (AD (v:=(.bool _)) U U U ?_));exact⟨rfl,H.ext⟩
def LK(d:Du):Ed:=⟨d.fr,d.to,d.am,-d.we⟩
def Nm(rs:List Int):List Ed:=(List.range (2*rs.length)).map fun j=>if j % 2=0 then⟨rs.length,(j / 2:Nat),rs.getD (j / 2) 0,0⟩else⟨(j / 2:Nat),rs.length,4503599627370496,0⟩
def BL(rs:List Int)(ds:List Du)(net:Bool):List Ed:=ds.map LK++if net=true then[]else Nm rs
theorem M9{rs:List Int}{i:Nat}{x:Int}(h:rs[i]?=some x):(Nm rs)[2*i]?=some ⟨rs.length,i,x,0⟩:=by
 have hl:=C0 h;unfold Nm;rw[DZ (by omega),if_pos (by omega),show 2*i / 2=i by omega,Bs h]
theorem Oa{rs:List Int}{i:Nat}(h:i<rs.length):(Nm rs)[2*i+1]?=some ⟨i,rs.length,4503599627370496,0⟩:=by
 unfold Nm;rw[DZ (by omega),if_neg (by omega),show(2*i+1) / 2=i by omega]
theorem WM(rs:List Int):(Nm rs).length=2*rs.length:=by unfold Nm;simp
def edV(e:Ed):List Value:=[.agg (CJ e).toArray]
structure RndK(b1 b2 b3:Nat)(a b:Option Addr)(n c m e:Nat)(rs:List Int)(ds:List Du)(net:Bool)(w:World):Prop where
 h1:w.heap[b1]?=some (Bl 38 [.slice b m e])
 h2:w.heap[b2]?=some (Bl 4 [.bool net])
 h3:w.heap[b3]?=some (Bl 31 [.slice a n c])
 R:Rd w a 1 I1 rs
 Rd':Rd w b 7 CS ds
theorem VH{b1 b2 b3:Nat}{a b:Option Addr}{n c m e:Nat}{rs:List Int}{ds:List Du}{net:Bool}(hn:rs.length=n)(hm:ds.length=m)(hn2:n<=1000000)(hw:∀d∈ds,-1000000000<=d.we/\d.we<=1000000000)(hm2:m<=1000000:=by omega):
  RZ prog 165 #[ptr b1,ptr b2,ptr b3] [] (fun _ w=>RndK b1 b2 b3 a b n c m e rs ds net w) ((BL rs ds net).map edV):=by
 subst hn hm;intro l w J E hJ0 hJs hEs hK hY;obtain⟨M0,hJ0⟩:=hJ0;obtain⟨w0,rfl⟩:=qD w
 have hat1:∀(i:Nat) (d:Du),ds[i]?=some d->((BL rs ds net).map edV)[i]?=some (edV (LK d)):=fun i d hd=>by
  unfold BL;have hl:=C0 hd;rw[qa1,qcb (by rw[qak];exact hl),qa1,hd];rfl
 have hat2:net=false->∀(j:Nat) (x:Ed),(Nm rs)[j]?=some x->((BL rs ds net).map edV)[ds.length+j]?=some (edV x):=fun h0 j x hx=>by
  unfold BL;rw[h0,qa1,qcf (by rw[qak];omega),qak,show ds.length+j - ds.length=j by omega];show((Nm rs)[j]?).map edV=_;rw[hx];rfl
 have hlen:((BL rs ds net).map edV).length=ds.length+if net=true then 0 else 2*rs.length:=by
  unfold BL;rw[qak,qat,qak]
  split
  .rfl
  .rw[WM]
 refine Ay (fn:=f165) func165 U [.func (.yield l) #[] #[],.pointer (some ⟨b1,0,none⟩),.pointer (some ⟨b2,0,none⟩),.pointer (some ⟨b3,0,none⟩)] U ?_;have K0:=(hK _ _ _ hJ0).2;have H:=Ctx.start w0 [];refine Ao (Ad (Bc Q8 U ((by rw[Aj K0.h1];rfl)) ?_));refine Ba Dh U (Af U (qA (A1 (Bt 1073737792 (α:=Nat) (fun i=>[(12,.int .i64 (i:Int))]) (fun i w'=>i<=ds.length/\∃M,J i M w') (fun i=>ds.length - i) 0 U ?_ ?_ ?_))))
 .exact⟨rfl,trivial⟩
 .exact⟨qaj _,M0,hJ0⟩
 .clear H;rintro i j w ⟨hi,M,hJ⟩;have KK:=(hK _ _ _ hJ).2;have R:=KK.Rd';obtain⟨w1,rfl,H⟩:=qE w;refine Ad (Bm U U (qA (Ao (An _ U ?_ ?_))))
  .intro h1;replace h1:=AM h1;obtain⟨d,hd⟩:=AA (l:=ds) (i:=i);have hwd:=hw d (qac hd);refine Aq (Aa (Ao (A1 (Ad (Be R Dh BO U U (by rfl) ?_)))));refine BQ _ DT BO U U ((R.ext0 H.ext).row hd U) (AU D4 H ?_);rintro b6 w - H;refine Bj BO U U U (by exact CW _) H at0 U ?_;rintro w H;refine qA (Ad (CU (.func _ _ _) U ?_));refine Ah Gw U (AB Cd U H at0 U (Ah He U (AB Cd U H at0 U (Ah Ez U (AB Bw U H at0 U (Ah Kn U (AB Bw U H at0 U (L6 U U ?_))))))));refine Bx (CJ (LK d)) Vt FZ ?_;have hY1:=hY i (edV (LK d)) M _ (hat1 i d hd) (hJs _ _ _ _ hJ H.ext);refine Hb (vs:=edV (LK d)) U hY1 U ?_;rintro u w hu
   obtain⟨bb,rfl,hu1,hu0⟩:∃bb,u=.bool bb/\(bb=true->∃M,J (i+1) M w)/\(bb=false->E w):=hu.elim (fun h=>⟨true,h.1,fun _=>let ⟨M',h1,_⟩:=h.2;⟨M',h1⟩,fun h=>by cases h⟩) (fun h=>⟨false,h.1,(fun h=>by cases h),fun _=>h.2⟩);refine BE U (qA (An _ U ?_ ?_))
   .intro h2;replace h2:=B7 h2;refine A7 (AF (Av (Av (AF (Av (FW U U ?_))))));exact .inr (hu0 (by simpa using h2))
   .intro h2;replace h2:=B9 h2;refine Aq (A8 (Aa (A0 (Az U U ?_))));refine Af U (qA ?_);exact⟨i+1,rfl,⟨rfl,trivial⟩,⟨by omega,hu1 (by simpa using h2)⟩,by omega⟩
  .intro h1;replace h1:=AN h1;obtain rfl:i=ds.length:=by omega
   refine Bp (Am (Am (AO (Aa (Ao (Ad (Bc Kl U ((H.old0 (by rw[Aj KK.h2];rfl))) ?_)))))));refine qA (An _ U ?_ ?_)
   .intro h2;refine A7 (Av (FW U U ?_));exact .inl ⟨M,by rw[hlen,if_pos h2];exact hJ⟩
   .intro h2;refine Aq (Aa (Ad (Bc BN U ((H.old0 (by rw[Aj KK.h3];rfl))) ?_)));refine Ba AV U (Ae U (qA (Ad (Bc BN U ((H.old0 (by rw[Aj KK.h3];rfl))) ?_))));refine Ba AV U (Af U (qA (A1 (Bt 72057559678190336 (α:=Nat) (fun i=>[(35,.int .i64 (i:Int))]) (fun i w'=>i<=rs.length/\∃M,J (ds.length+2*i) M w') (fun i=>rs.length - i) 0 U ?_ ?_ ?_))))
    .exact⟨rfl,trivial⟩
    .exact⟨qaj _,M,hJ⟩
    .clear H;rintro i j2 w ⟨hi,M,hJ⟩;have KK:=(hK _ _ _ hJ).2;have R:=KK.R;obtain⟨w1,rfl,H⟩:=qE w;refine Ad (Bm U U (qA (Ao (An _ U ?_ ?_))))
     .intro h3;replace h3:=AM h3;obtain⟨x,hx⟩:=AA (l:=rs) (i:=i);refine Aq (Aa (Ao (A1 (Ad (Af U (Be R AV B2 U U (by rfl) ?_))))));refine Bc Bw U (((R.ext0 H.ext).fld hx U (j:=0) U)) (Ae U (Ae U (qA (Ad (CU (.func _ _ _) U ?_)))));refine Af U (Af U (Af U (Bx (CJ ⟨rs.length,i,x,0⟩) Vt FZ ?_)));have hY1:=hY _ (edV ⟨rs.length,i,x,0⟩) M _ (hat2 h2 _ _ (M9 hx)) (hJs _ _ _ _ hJ H.ext);refine Hb (vs:=edV ⟨rs.length,i,x,0⟩) U hY1 U ?_;rintro u w hu;clear H;obtain⟨bb,rfl,hu1,hu0⟩:∃bb,u=.bool bb/\(bb=true->∃M,J (ds.length+2*i+1) M w)/\(bb=false->E w):=hu.elim (fun h=>⟨true,h.1,fun _=>let ⟨M',h1,_⟩:=h.2;⟨M',h1⟩,fun h=>by cases h⟩) (fun h=>⟨false,h.1,(fun h=>by cases h),fun _=>h.2⟩);refine BE U (Aw U (AK 47 U ?_ ?_))
      .intro h4;replace h4:=B7 h4;refine Ag U (Ag U (Ag U (Ag U (Ag U (Ag U (A6 U (.bool _) U (qA (DH U (A7 (AF (Av (Av (AF (FW U U ?_))))))))))))));exact .inr (hu0 (by simpa using h4))
      .intro h4;replace h4:=B9 h4;refine CU (.func _ _ _) U (Af U (Af U (Bx (CJ ⟨i,rs.length,4503599627370496,0⟩) Vt FZ ?_)));obtain⟨M2,hJ2⟩:∃M,J (ds.length+2*i+1) M w:=hu1 (by simp_all);have hY2:=hY _ (edV ⟨i,rs.length,4503599627370496,0⟩) M2 _ (hat2 h2 _ _ (Oa (by omega))) hJ2;refine Hb (vs:=edV ⟨i,rs.length,4503599627370496,0⟩) U hY2 U ?_;rintro u w hu;obtain⟨bb,rfl,hv1,hv0⟩:∃bb,u=.bool bb/\(bb=true->∃M,J (ds.length+2*i+1+1) M w)/\(bb=false->E w):=hu.elim (fun h=>⟨true,h.1,fun _=>let ⟨M',h1,_⟩:=h.2;⟨M',h1⟩,fun h=>by cases h⟩) (fun h=>⟨false,h.1,(fun h=>by cases h),fun _=>h.2⟩);refine BE U (A9 U (.bool _) U (qA (An _ U ?_ ?_)))
       .intro h5;replace h5:=B7 h5;refine A7 (AF (Av (Av (AF (FW U U ?_)))));exact .inr (hv0 (by simpa using h5))
       .intro h5;replace h5:=B9 h5;refine Aq (A8 (Aa (A0 (Az U U ?_))));refine Af U (qA ?_);exact⟨i+1,rfl,⟨rfl,trivial⟩,⟨by omega,by rw[show ds.length+2*(i+1)=ds.length+2*i+1+1 by omega];exact hv1 (by simpa using h5)⟩,by omega⟩
     .intro h3;replace h3:=AN h3;refine Bp (Am (Am (AO (CO U U ?_))));obtain rfl:i=rs.length:=by omega
      exact .inl ⟨M,by rw[hlen,if_neg (by rw[h2];decide)];exact hJ⟩
abbrev U1(x:Int):List Value:=[G3 x]
instance:DecidableEq Ed:=fun x y=>if h:x.f=y.f/\x.t=y.t/\x.cap=y.cap/\x.cost=y.cost then isTrue (by cases x;cases y;simp_all)else isFalse fun e=>h (by subst e;exact⟨rfl,rfl,rfl,rfl⟩)
theorem Ub(x y:Ed):decide (x=y)=true↔CJ x=CJ y:=by
 obtain⟨a,b,c,d⟩:=x;obtain⟨a',b',c',d'⟩:=y;simp[CJ]
theorem Ald(a b:Option Addr)(n c m d:Nat)(xs ys:List Ed)(w:World)(R:Rd w a 4 CJ xs)(hn:xs.length=n)(hn2:n<=1000000)(Ry:Rd w b 4 CJ ys)(hm:ys.length=m)(hm2:m<=1000000) :
  Ret prog 153 #[.slice a n c,.slice b m d] w fun v w'=>v=.bool (decide (xs=ys))/\Ext [] w w':=by
 subst hn hm;obtain⟨w0,rfl,H⟩:=qE w;refine Ay (fn:=f153) func153 U [.slice a xs.length c,.slice b ys.length d] U (Ad (Ai U (qA (Ao (Ad (A2 U (Ba C8 U (A2 U (Ba C8 U (Cv U U ?_))))))))));refine qA (An _ U ?_ ?_)
 .intro h1;replace h1:=Cy h1;refine Ad (Ai U (qA (A7 (Av (AD (v:=(.bool _)) U U U ?_)))));exact⟨qaa Value.bool (qbb fun h=>by rw[h]at h1;simp at h1).symm,H.ext⟩
 .intro h1;replace h1:=Cz h1;have hle:xs.length=ys.length:=by omega
  refine Aq (Aa (Ao (Ad (A2 U (Ba C8 U (Af U (qA (A1 (Bt 67100720 (α:=Nat) (fun i=>[(13,.int .i64 (i:Int))]) (fun i w'=>i<=xs.length/\Ctx w0 [] w' []/\∀(k:Nat) (x y:Ed),k<i->xs[k]?=some x->ys[k]?=some y->x=y) (fun i=>xs.length - i) 0 U ?_ ?_ ?_)))))))))
  .exact⟨rfl,trivial⟩
  .exact⟨qaj _,H,fun k x y h=>absurd h (qa7 _)⟩
  .clear H;rintro i j w ⟨hi,H,hb⟩;refine Ad (Bm U U (qA (Ao (An _ U ?_ ?_))))
   .intro h2;replace h2:=AM h2;obtain⟨x,hx⟩:=AA (l:=xs) (i:=i);obtain⟨y,hy⟩:=AA (l:=ys) (i:=i);refine Aq (Aa (Ao (A1 (Ad (Af U (Ae U (qA (Dw (fun x=>x=_) Bq U ?_))))))));refine Cm U (AX U (BH R C8 C9 U U (by rfl) ?_));refine G4 _ GD C9 U U (by rintro _ rfl;exact((R.ext0 H.drew.ext).row hx rfl)) ?_;refine Cm U (AX U (BH Ry C8 C9 U U (by rfl) ?_));refine G4 _ GD C9 U U (by rintro _ rfl;exact((Ry.ext0 H.drew.ext).row hy rfl)) ?_;refine Wk (ks:=[true,true,true,true]) (xs:=CJ x) (ys:=CJ y) (decide (x=y)) U U U ⟨rfl,rfl,rfl,rfl,trivial⟩ (Ub x y) ?_;refine BT ?_;rintro _ rfl;replace H:=H.drew;refine An _ U ?_ ?_
    .intro h3;refine Ad (Ai U (qA (A7 (AF (Av (Av (AF (Av (AD (v:=(.bool _)) U U U ?_)))))))));have hne:¬x=y:=by simpa using h3
     exact⟨qaa Value.bool (qbb fun h=>by subst h;rw[hx]at hy;injection hy with hy;exact hne hy).symm,H.ext⟩
    .intro h3;refine Aq (A8 (Aa (A0 (Az U U ?_))));refine Af U (qA ?_);have heq:x=y:=by simpa using h3
     refine⟨i+1,rfl,⟨rfl,trivial⟩,⟨by omega,H,fun k x' y' hk hx' hy'=>?_⟩,by omega⟩
     rcases qap k i with h7|h7
     .exact hb k x' y' h7 hx' hy'
     .obtain rfl:k=i:=by omega
      rw[hx]at hx';rw[hy]at hy';cases hx';cases hy';exact heq
   .intro h2;replace h2:=AN h2;refine Bp (Am (Am (AO (Aa (Ad (Ai U (qA (A7 (AD (v:=(.bool _)) U U U ?_)))))))));obtain rfl:i=xs.length:=by omega
    exact⟨qaa Value.bool (qar (M8 hle hb)).symm,H.ext⟩
theorem Ale(a b:Option Addr)(n c m d:Nat)(xs ys:List Int)(w:World)(R:Rd w a 1 U1 xs)(hn:xs.length=n)(hn2:n<=1000000)(Ry:Rd w b 1 U1 ys)(hm:ys.length=m)(hm2:m<=1000000) :
  Ret prog 154 #[.slice a n c,.slice b m d] w fun v w'=>v=.bool (decide (xs=ys))/\Ext [] w w':=by
 subst hn hm;obtain⟨w0,rfl,H⟩:=qE w;refine Ay (fn:=f154) func154 U [.slice a xs.length c,.slice b ys.length d] U (Ad (Ai U (qA (Ao (Ad (A2 U (Ba Bh U (A2 U (Ba Bh U (Cv U U ?_))))))))));refine qA (An _ U ?_ ?_)
 .intro h1;replace h1:=Cy h1;refine Ad (Ai U (qA (A7 (Av (AD (v:=(.bool _)) U U U ?_)))));exact⟨qaa Value.bool (qbb fun h=>by rw[h]at h1;simp at h1).symm,H.ext⟩
 .intro h1;replace h1:=Cz h1;have hle:xs.length=ys.length:=by omega
  refine Aq (Aa (Ao (Ad (A2 U (Ba Bh U (Af U (qA (A1 (Bt 67100720 (α:=Nat) (fun i=>[(13,.int .i64 (i:Int))]) (fun i w'=>i<=xs.length/\Ctx w0 [] w' []/\∀(k:Nat) (x y:Int),k<i->xs[k]?=some x->ys[k]?=some y->x=y) (fun i=>xs.length - i) 0 U ?_ ?_ ?_)))))))))
  .exact⟨rfl,trivial⟩
  .exact⟨qaj _,H,fun k x y h=>absurd h (qa7 _)⟩
  .clear H;rintro i j w ⟨hi,H,hb⟩;refine Ad (Bm U U (qA (Ao (An _ U ?_ ?_))))
   .intro h2;replace h2:=AM h2;obtain⟨x,hx⟩:=AA (l:=xs) (i:=i);obtain⟨y,hy⟩:=AA (l:=ys) (i:=i);refine Aq (Aa (Ao (A1 (Ad (Af U (Ae U (qA (Dw (fun x=>x=_) Bq U ?_))))))));refine Cm U (AX U (BH R Bh Bo U U (by rfl) ?_));refine BX Bz U (by rintro _ rfl;exact(((R.ext0 H.drew.ext).fld hx rfl (j:=0) rfl))) ?_;refine Cm U (AX U (BH Ry Bh Bo U U (by rfl) ?_));refine BX Bz U (by rintro _ rfl;exact(((Ry.ext0 H.drew.ext).fld hy rfl (j:=0) rfl))) ?_;refine Md U U (BT ?_);rintro _ rfl;replace H:=H.drew;refine An _ U ?_ ?_
    .intro h3;replace h3:=Cy h3;refine Ad (Ai U (qA (A7 (AF (Av (Av (AF (Av (AD (v:=(.bool _)) U U U ?_)))))))));have hne:¬x=y:=h3;exact⟨qaa Value.bool (qbb fun h=>by subst h;rw[hx]at hy;injection hy with hy;exact hne hy).symm,H.ext⟩
    .intro h3;replace h3:=Cz h3;refine Aq (A8 (Aa (A0 (Az U U ?_))));refine Af U (qA ?_);have heq:x=y:=by omega
     refine⟨i+1,rfl,⟨rfl,trivial⟩,⟨by omega,H,fun k x' y' hk hx' hy'=>?_⟩,by omega⟩
     rcases qap k i with h7|h7
     .exact hb k x' y' h7 hx' hy'
     .obtain rfl:k=i:=by omega
      rw[hx]at hx';rw[hy]at hy';cases hx';cases hy';exact heq
   .intro h2;replace h2:=AN h2;refine Bp (Am (Am (AO (Aa (Ad (Ai U (qA (A7 (AD (v:=(.bool _)) U U U ?_)))))))));obtain rfl:i=xs.length:=by omega
    exact⟨qaa Value.bool (qar (M8 hle hb)).symm,H.ext⟩
theorem Yx(a b:Option Addr)(n c m d:Nat)(net:Bool)(w:World):Ret prog 141 #[.slice a n c,.slice b m d,.bool net] w fun v w'=>∃b1 b2 b3,v=.func (.func 165) #[] #[ptr b1,ptr b2,ptr b3]/\Ctx w [] w' [(b2,Bl 4 [.bool net]),(b1,Bl 38 [.slice b m d]),(b3,Bl 31 [.slice a n c])]:=by
 obtain⟨w0,rfl,H⟩:=qE w;refine Ay (fn:=f141) func141 U [.slice a n c,.slice b m d,.bool net] U (Ad (Br _ (.slice _ _ _) U U H ?_));rintro b3 w - H;refine Br _ (.slice _ _ _) U U H ?_;rintro b4 w - H;refine Br _ (.bool _) U U H ?_;rintro b5 w - H;refine CX U .nilFunc U (qA (Ad (Cf [.pointer _,.pointer _,.pointer _] U (CX U (.func _ _ _) U ?_))));refine qA (A7 (AD (v:=(.func _ _ _)) U U U ?_));exact⟨_,_,_,rfl,H⟩
theorem Ab6(l:List Int):∀v∈l.map Dj,AZ v=true:=fun v hv=>by
 obtain⟨x,_,rfl⟩:=qag.1 hv;rfl
theorem Nn(a:Option Addr)(n c:Nat)(xs:List Int)(w:World)(R:Rd w a 1 I1 xs)(hn:xs.length=n)(hm:n<=1000000000:=by omega):
  Ret prog 123 #[.slice a n c] w fun v w'=>Fresh w w' 2 1 v (xs.map Dj):=by
 subst hn;obtain⟨w0,rfl,H⟩:=qE w;refine Ay (fn:=f123) func123 U [.slice a xs.length c] U (Ad (A4 U (qA (Ao (Ad (A2 U (Ja U AV U (qA (An _ U ?_ ?_)))))))))
 .intro h1;have ha:a=none:=by simpa using h1
  subst ha
  have hxs:xs=[]:=by
   cases xs with
   |nil=>rfl
   |cons x xs=>obtain⟨b,o,h⟩:=R.some' (by simp);cases h
  subst hxs;refine Ad (A4 U (qA (A7 (Av (AD (v:=(.slice _ _ _)) U U U ?_)))));exact Fresh.nil H _ _
 .intro h1;refine Aq (Aa (Ad (GA AV B2 H ?_)));rintro b5 w H O;refine A2 U (G9 U AV AV B2 LB E5 U (xs.map Dj) U U H O (by simp) (Ab6 xs) (Rd.app1 (f:=Dj) (R.ext0 H.ext)) ?_);rintro a7 c7 full7 w H O;refine A4 U (qA (A7 (AD (v:=(.slice _ _ _)) U U U ?_)));exact H.fresh O
def SG(k:Int)(n:Nat):Nat:=(max 0 (min k (n:Int))).toNat
theorem WN(N:Int)(a b:Option Addr)(n c m d:Nat)(k:Int)(fl:List Int)(w:World)(R:Rd w b 1 I1 fl)(hm:fl.length=m)(hd:m<=d)(hm2:m<=1000000) :
  Ret prog 82 #[DV N a n c,.slice b m d,.int .i64 k] w fun v w'=>Fresh w w' 2 1 v ((fl.take (SG k m)).map Dj):=by
 subst hm;obtain⟨w0,rfl,H⟩:=qE w;have hk:SG k fl.length<=fl.length:=by unfold SG;omega
 refine Ay (fn:=f82) func82 U [DV N a n c,.slice b fl.length d,.int .i64 k] U (Ad (Br [.int .i64 N,.slice a n c] (.agg _) U U H ?_));rintro b3 w - H;refine A4 U (qA (Ad (A2 U (Af U (A2 U (Ba AV U (Aek U U U ?_)))))));refine KQ U U U (Ke U AV B2 U U ?_);refine Al qB (Nn b (SG k fl.length) d (fl.take (SG k fl.length)) _ ((R.ext0 H.ext).take _) (by rw[qbm];omega)) U ?_;rintro v w F;obtain⟨a9,n9,c9,f9,rfl,O9,hb9⟩:=F.ex;refine A4 U (qA (A7 (AD (v:=(.slice _ _ _)) U U U ?_)));exact⟨⟨a9,n9,c9,f9,rfl,O9,fun x hx=>⟨(hb9 x hx).1,qa0 H.size (hb9 x hx).2⟩⟩,H.ext.trans F.ext⟩
section
variable {P:Program}{r:Option Nat}{ops rest:List Oper}{Q:Exit->Env->World->Prop}{e:Env}{w:World}{dst:Option Tmp}{ty:TypeId}{pos:String}{af:Array Edge}{g:Option (Nat × Bool)}
theorem SH{t k el:TypeId}{kk:IntKind}{x y:Operand}{b:Nat}{o:Obj}{m:List (Int × Value)}{n:Int}{z:Value}(hg:AS ⟨dst,.lookup t x y true,ty,pos,af,g⟩ ops e=true)(ht:Mf P t=some (k,el))(hk:P.underlying k=some (.int kk))(hz:(P.info? el).bind (·.zero)=some z)(hx:ev e x=.map (some b))(hy:ev e y=.int kk n)(hb:w.heap[b]?=some o)(hM:CY kk m o)(h:AG P r ops Q rest (put e dst (.tuple #[(Ey m n).getD z,.bool (Ey m n).isSome])) w):AG P r ops Q (⟨dst,.lookup t x y true,ty,pos,af,g⟩::rest) e w:=by
 have H:Ctx w [b] w [(b,o)]:=Ctx.start1 hb;exact Ha hg ht hk hz hx hy H at0 hM h
end
def MA(ds:List Du)(k:Int):Du:=(C6 ds k).getD d00
theorem SJ{bd b:Nat}{nx k:Int}{o:Obj}{ds:List Du}(w:World)(hd:w.heap[bd]?=some (Bl 132 (DU b nx)))(hb:w.heap[b]?=some o)(hM:CY .u64 (dm ds) o) :
  Ret prog 86 #[ptr bd,.int .u64 k] w fun v w'=>v=.tuple #[G0 (MA ds k),.bool (C6 ds k).isSome]/\Ext [] w w':=by
 obtain⟨w0,rfl,H⟩:=qE w
 have hmg:(Ey (dm ds) k).getD (G0 d00)=G0 (MA ds k):=by
  rw[HY];unfold MA;cases C6 ds k <;> rfl
 have hms:(Ey (dm ds) k).isSome=(C6 ds k).isSome:=by
  rw[HY];cases C6 ds k <;> rfl
 refine Ay (fn:=f86) func86 U [.pointer (some ⟨bd,0,none⟩),.int .u64 k] U ?_;refine Ad (AU D4 H ?_);rintro b4 w - H;refine Ai U (qA (Ao (Ad (Ax U (Cu Ls U ?_)))));refine qA (An _ U ?_ ?_)
 .intro h0;cases h0
 .intro h0;refine Aq (Aa (Ad (Ax U (AE U (Ah DO U (Bc Ft U ((H.old0 (by rw[Aj hd];rfl))) ?_))))));refine Af U (SH (z:=G0 d00) U FG Fk LD U U (H.ext.to hb (by simp)) hM ?_);rw[hmg,hms];refine Cb U (AJ U U (AJ U U (AU D4 H ?_)));rintro b6 w - H;refine Bj BO U U U (by exact CW (MA ds k)) H at0 U ?_;rintro w H;refine Ai U (qA (Ad (Cj DT BO U H at0 U (Aw U (Bj BO U U U (by exact CW (MA ds k)) H at1 U ?_)))));rintro w H;refine Ai U (qA (A7 (IC U U U DT BO H at1 U (show _=(.bool _)from rfl) ?_)));exact⟨rfl,H.ext⟩
theorem Af1(w:World):Ret prog 27 #[] w fun v w'=>∃bd b o,v=ptr bd/\CY .u64 (dm []) o/\Ctx w [] w' [(bd,Bl 132 (DU b 1)),(b,o)]:=by
 obtain⟨w0,rfl,H⟩:=qE w;refine Ay (fn:=f27) func27 U [] U (Ad (B1 U (qA (Ad (OB .u64 U H ?_)))));rintro b o w hM H;refine Bx (DU b 1) Aac Aak (Br (DU b 1) (.agg _) U U H ?_);rintro b3 w - H;refine B1 U (qA (A7 (AD (v:=(.pointer _)) U U U ?_)));exact⟨b3,b,o,rfl,hM,H⟩
def dueB(n:Nat)(d:Du):Bool:=Es d && (decide (d.fr<n) && decide (d.to<n))
def r19B(rs:List Int)(ds:List Du):Bool:=(decide (rs.length<=16) && decide (ds.length<=64)) && (rs.all Dc && (ds.all (dueB rs.length) && decide ((ER (ds.map Du.am)).2=0)))
theorem Ab7(ds:List Du):∀i,(EI i ds).map Du.am=ds.map Du.am:=by
 induction ds with
 |nil=>intro i;rfl
 |cons d ds ih=>intro i;show d.am::(EI (i+1) ds).map Du.am=d.am::ds.map Du.am;rw[ih]
theorem Ab8(rs:List Int):decide ((ER rs).2=1) = !rs.all Dc:=by
 unfold ER
 cases h:rs.all Dc with
 |false=>rw[if_pos rfl];rfl
 |true =>
  rw[if_neg (by decide)]
  split <;> rfl
theorem Alf(rs:List Int)(ds:List Du)(hl:ds.length<=1000000):r19B rs ds=D5 rs ds:=by
 have h1:decide (ofC (EI 0 ds) (ds.length+1)=0)=(decide (ds.length<=64) && (ds.all Es && decide ((ER (ds.map Du.am)).2=0))):=by
  have ha:=Yu (ds:=ds) 0;rw[show(((0:Nat):Int)+ds.length+1)=(ds.length:Int)+1 by omega]at ha;have ham:(EI 0 ds).map (·.am)=ds.map Du.am:=Ab7 ds 0;unfold ofC;rw[QX,ham,show FP ((ds.length:Int)+1) 0 (EI 0 ds)=ds.all Es from ha]
  by_cases h64:64<ds.length
  .rw[if_pos h64,qbb (show ¬ds.length<=64 by omega)];rfl
  .rw[if_neg h64,qar (show ds.length<=64 by omega),qcp,if_neg (by rw[qar (show 1<=(ds.length:Int)+1 by omega),qar (show(ds.length:Int)+1<=4611686018427387904 by omega)];decide)]
   cases hm:ds.all Es with
   |false=>rw[if_pos rfl];rfl
   |true=>rw[if_neg (by decide),qcp]
 have h2:ds.all (dueB rs.length)=(ds.all (fun d=>decide (max d.fr d.to<rs.length)) && ds.all Es):=by
  rw[qad];simp only[qaf,qau,qas,dueB];constructor
  .intro h;exact⟨fun d hd=>by have:=h d hd;omega,fun d hd=>(h d hd).1⟩
  .intro h d hd;have:=h.1 d hd;exact⟨h.2 d hd,by omega,by omega⟩
 unfold r19B D5;rw[h1,h2,Ab8];cases decide (rs.length<=16) <;> cases decide (ds.length<=64) <;> cases rs.all Dc <;> cases ds.all (fun d=>decide (max d.fr d.to<rs.length)) <;> cases ds.all Es <;> rfl
def inA(acs:List Ac)(k:Int):Bool:=decide (0<=k) && decide (k<acs.length)
def Dd(acs:List Ac)(k:Int):Ac:=if inA acs k=true then acs.getD k.toNat a00 else a00
theorem Ob{bd:Nat}(a:Option Addr)(n c:Nat)(acs:List Ac)(k:Int)(w:World)(hd:w.heap[bd]?=some (Bl 129 [.slice a n c]))(R:Rd w a 2 CQ acs)(hn:acs.length=n)(hm:n<=1000000) :
  Ret prog 85 #[ptr bd,.int .i64 k] w fun v w'=>v=.tuple #[.agg (CQ (Dd acs k)).toArray,.bool (inA acs k)]/\Ext [] w w':=by
 subst hn;obtain⟨w0,rfl,H⟩:=qE w;refine Ay (fn:=f85) func85 U [.pointer (some ⟨bd,0,none⟩),.int .i64 k] U ?_;refine Ad (AU GF H ?_);rintro b4 w - H;refine Ai U (qA (Ao (Ad (BV (α:=Unit) 2097088 (fun _=>[(20,.bool (!inA acs k))]) (fun _ w'=>Ctx w0 [] w' [(b4,Bl 108 (CQ a00))]) U ?_ ?_))))
 .refine Ax U (Cu N1 U ?_);refine Aw U (AK 8 U ?_ ?_)
  .intro h1;refine Ag U (Ag U (A6 U (.bool _) U (Aw U (Ag U (Ag U (Ag U (Ag U (Ag U (Ag U ?_)))))))));refine Ag U (A6 U (.bool _) U (Ab ?_));exact⟨rfl,(),rfl,⟨qaa Value.bool (by unfold inA;rw[qad];simp_all;try omega),trivial⟩,H⟩
  .intro h2;refine Af U (Bm U U (A9 U (.bool _) U (Aw U (AK 12 U ?_ ?_))))
   .intro h3;replace h3:=AM h3;refine Ag U (Ag U (Ag U (Ag U (Ag U (Ag U (Ag U (A6 U (.bool _) U (Ab ?_))))))));exact⟨rfl,(),rfl,⟨qaa Value.bool (by unfold inA;rw[qad];simp_all;try omega),trivial⟩,H⟩
   .intro h4;replace h4:=AN h4;refine Af U (Ax U (AE U (Ah EF U (Bc Gi U ((H.old0 (by rw[Aj hd];rfl))) ?_))));refine Ba DE U (CG U U (A9 U (.bool _) U (Ab ?_)));exact⟨rfl,(),rfl,⟨qaa Value.bool (by unfold inA;rw[qad];simp_all;try omega),trivial⟩,H⟩
 rintro - j20 w H;refine An _ U ?_ ?_
 .intro h1;replace h1:=B7 h1;refine Ad (Bx [.int .i64 0,.int .i64 0] ZZ GF ?_);refine Bj Da U U U (by simp[AZ]) H at0 U ?_;rintro w H;refine Ai U (qA (A7 (Av (IC U U U Kk Da H at0 U (show _=(.bool _)from rfl) ?_))));have h1':inA acs k=false:=by simpa using h1
  exact⟨by unfold Dd;rw[h1',if_neg (by decide)];rfl,H.ext⟩
 .intro h1;replace h1:=B9 h1;have h1':inA acs k=true:=by simpa using h1
  have h2:0<=k/\k<acs.length:=by unfold inA at h1';simpa using h1'
  obtain⟨i,rfl⟩:∃i:Nat,k=(i:Int):=⟨k.toNat,by omega⟩;obtain⟨x,hx⟩:=AA (l:=acs) (i:=i);refine Aq (Aa (Ad (Ax U (AE U (Ah EF U (Bc Gi U ((H.old0 (by rw[Aj hd];rfl))) ?_))))));refine Af U (Be R DE Da U U (by rfl) ?_);refine BQ _ Kk Da U U ((R.ext0 H.ext).row hx U) (Bj Da U U U (by exact It _) H at0 U ?_);rintro w H;refine Ai U (qA (A7 (IC U U U Kk Da H at0 U (show _=(.bool _)from rfl) ?_)));exact⟨by unfold Dd;rw[h1',if_pos rfl,show((i:Int)).toNat=i from rfl,Bs hx],H.ext⟩
section
variable {P:Program}{r:Option Nat}{ops rest:List Oper}{Q:Exit->Env->World->Prop}{e:Env}{w:World}{dst:Option Tmp}{ty:TypeId}{pos:String}{af:Array Edge}{g:Option (Nat × Bool)}
theorem Af2{t k el:TypeId}{kk:IntKind}{x:Operand}{b:Nat}{o:Obj}{m:List (Int × Value)}(hg:AS ⟨dst,.call ⟨.builtin .len,#[x],#[t]⟩,ty,pos,af,g⟩ ops e=true)(ht:Mf P t=some (k,el))(hx:ev e x=.map (some b))(hb:w.heap[b]?=some o)(hM:CY kk m o)(h:AG P r ops Q rest (put e dst (.int .i64 (m.length:Int))) w):AG P r ops Q (⟨dst,.call ⟨.builtin .len,#[x],#[t]⟩,ty,pos,af,g⟩::rest) e w:=by
 obtain⟨es,clock,rfl,hes,_⟩:=hM
 have hl:es.size=m.length:=by
  have:=qaa List.length hes
  simpa using this
 have hgo:(getObj b).run P w=.ok (.map es clock) w:=by simp[getObj,Sem.run,hb]
 exact BK hg U (by simp[execOp,resolve,invoke,builtin,hx,Builtin.len_,Bf (Ib ht),hgo,goInt,hl]) h
end
theorem Ab9{ds:List Du}{d:Du}(h:Ey (dm ds) d.id=none):Me (dm ds) d.id (G0 d)=dm (ds++[d]):=by
 rw[<-Abu];generalize dm ds=m at h
 induction m with
 |nil=>rfl
 |cons p m ih =>
  have hp:¬p.1=d.id:=by
   intro hp;simp[Ey,hp]at h
  have hb2:(p.1 == d.id)=false:=by simpa using hp
  have hm2:Ey m d.id=none:=by rw[<-h];simp[Ey,hb2]
  simp[Me,hp,ih hm2]
def nodeR(N k:Int):Bool:=decide (0<=k) && decide (k<N)
theorem Dr{xs:List Int}:(ER xs).2=0↔(∀x∈xs,Dc x=true)/\Cw xs<=4503599627370496:=by
 unfold ER
 cases h:xs.all Dc with
 |false =>
  rw[if_pos rfl];refine⟨fun h=>by simp at h,fun h2=>?_⟩;rw[qau.2 h2.1]at h;cases h
 |true =>
  rw[if_neg (by decide)];rw[qau]at h
  split
  .rename_i h3;exact⟨fun _=>⟨h,h3⟩,fun _=>rfl⟩
  .rename_i h3;exact⟨fun h=>by simp at h,fun h4=>absurd h4.2 h3⟩
theorem F7{ds:List Du}{nx:Int}:ofC ds nx=0↔ds.length<=64/\(1<=nx/\nx<=4611686018427387904)/\FP nx 0 ds=true/\(ER (ds.map (·.am))).2=0:=by
 unfold ofC
 by_cases h1:64<ds.length
 .rw[if_pos h1];exact⟨fun h=>by simp at h,fun h=>absurd h.1 (by omega)⟩
 rw[if_neg h1]
 by_cases h2:1<=nx/\nx<=4611686018427387904
 .rw[qar h2.1,qar h2.2,if_neg (by decide)]
  cases h3:FP nx 0 ds with
  |false=>rw[if_pos rfl];exact⟨fun h=>by simp at h,fun h=>by cases h.2.2.1⟩
  |true=>rw[if_neg (by decide)];exact⟨fun h=>⟨by omega,h2,rfl,h⟩,fun h=>h.2.2.2⟩
 .have:(decide (1<=nx) && decide (nx<=4611686018427387904))=false:=by
   rw[Bool.eq_false_iff];intro h;simp only[qaf,qas]at h;exact h2 h
  rw[if_pos this];exact⟨fun h=>by simp at h,fun h=>absurd h.2.1 h2⟩
theorem Af3{nx a b:Int}{ds:List Du}(h:FP nx b ds=true)(hab:a<=b:=by omega):FP nx a ds=true:=by
 cases ds with
 |nil=>rfl
 |cons d ds =>
  simp only[FP,qaf,qas]at h |-;exact⟨⟨h.1.1,by omega,h.1.2.2⟩,h.2⟩
def Eo:List Du->List Int->List Du
 | [],_=>[]
 |d::ds,[]=>d::ds
 |d::ds,x::xs=>if d.held=true then d::Eo ds (x::xs)else if d.am=x then Eo ds xs else{ d with am:=d.am - x }::Eo ds xs
theorem QY(ds:List Du):Eo ds []=ds:=by cases ds <;> rfl
theorem Iu{d:Du}(h:d.held=true)(ds:List Du)(xs:List Int):Eo (d::ds) xs=d::Eo ds xs:=by
 cases xs with
 |nil=>rw[QY,QY]
 |cons x xs=>show(if d.held=true then _ else _)=_;rw[if_pos h]
theorem Iv{d:Du}(h:¬d.held=true)(ds:List Du)(x:Int)(xs:List Int):Eo (d::ds) (x::xs)=(if d.am=x then[]else[{ d with am:=d.am - x }])++Eo ds xs:=by
 show(if d.held=true then _ else _)=_;rw[if_neg h]
 split <;> rfl
theorem Iw(d:Du)(ds:List Du):opn (d::ds)=(if d.held=true then[]else[d])++opn ds:=by
 unfold opn;rw[qbr];cases d.held <;> rfl
def PayIn(os:List Du)(xs:List Int):Prop:=os.length=xs.length/\∀(i:Nat) (d:Du) (x:Int),os[i]?=some d->xs[i]?=some x->0<=x/\x<=d.am
theorem PayIn.tail{d:Du}{x:Int}{os:List Du}{xs:List Int}(h:PayIn (d::os) (x::xs)):(0<=x/\x<=d.am)/\PayIn os xs :=
 ⟨h.2 0 d x rfl rfl,by have:=h.1;simp only[qa8]at this;omega,fun i e y he hy=>h.2 (i+1) e y he hy⟩
theorem PayIn.cons{d:Du}{os:List Du}{xs:List Int}(h:PayIn (d::os) xs):∃x xs',xs=x::xs':=by
 cases xs with
 |nil=>have:=h.1;simp at this
 |cons x xs=>exact⟨x,xs,rfl⟩
theorem Jq{motive:List Du->List Int->Prop}(h0:∀xs,motive [] xs)(h1:∀d ds xs,d.held=true->motive ds xs->motive (d::ds) xs)(h2:∀d ds x xs,¬d.held=true->0<=x->x<=d.am->motive ds xs->motive (d::ds) (x::xs)):∀(ds:List Du) (xs:List Int),PayIn (opn ds) xs->motive ds xs
 | [],xs,_=>h0 xs
 |d::ds,xs,h=>by
  rw[Iw]at h
  by_cases hd:d.held=true
  .rw[if_pos hd]at h;exact h1 d ds xs hd (Jq h0 h1 h2 ds xs h)
  .rw[if_neg hd]at h;obtain⟨x,xs,rfl⟩:=PayIn.cons h;obtain⟨ha,hb⟩:=PayIn.tail h;exact h2 d ds x xs hd ha.1 ha.2 (Jq h0 h1 h2 ds xs hb)
theorem Aca{nx:Int}{ds:List Du}{xs:List Int}(h:PayIn (opn ds) xs):∀ah,FP nx ah ds=true->FP nx ah (Eo ds xs)=true:=by
 refine Jq (motive:=fun ds xs=>∀ah,FP nx ah ds=true->FP nx ah (Eo ds xs)=true) ?_ ?_ ?_ ds xs h
 .intro xs ah h;exact h
 .intro d ds xs hd ih ah h;rw[Iu hd];simp only[FP,qaf,qas]at h |-;exact⟨h.1,ih _ h.2⟩
 .intro d ds x xs hd h0 h1 ih ah h;rw[Iv hd];simp only[FP,qaf,qas]at h
  by_cases he:d.am=x
  .rw[if_pos he];exact Af3 (ih _ h.2)
  .rw[if_neg he];show FP nx ah ({ d with am:=d.am - x }::Eo ds xs)=true;simp only[FP,qaf,qas];refine⟨⟨?_,h.1.2⟩,ih _ h.2⟩;have hm:=h.1.1;unfold Es Dc at hm |-;simp only[qaf,qas,qce,qen]at hm |-;exact⟨hm.1,by omega,by omega,hm.2.2.2⟩
theorem Acb{ds:List Du}{xs:List Int}(h:PayIn (opn ds) xs):(Eo ds xs).length<=ds.length:=by
 refine Jq (motive:=fun ds xs=>(Eo ds xs).length<=ds.length) ?_ ?_ ?_ ds xs h
 .intro xs;exact qan _
 .intro d ds xs hd ih;rw[Iu hd];simpa using ih
 .intro d ds x xs hd _ _ ih;rw[Iv hd,qat,qa8]
  split <;> simp <;> omega
theorem Acc(c:Du->Int)(hc:∀d z,c { d with am:=z }=c d){ds:List Du}{xs:List Int}(h:PayIn (opn ds) xs):Cw ((Eo ds xs).map fun d=>c d*d.am)=Cw (ds.map fun d=>c d*d.am) - Cw (List.zipWith (fun d x=>c d*x) (opn ds) xs):=by
 refine Jq (motive:=fun ds xs=>Cw ((Eo ds xs).map fun d=>c d*d.am)=Cw (ds.map fun d=>c d*d.am) - Cw (List.zipWith (fun d x=>c d*x) (opn ds) xs)) ?_ ?_ ?_ ds xs h
 .intro xs;rfl
 .intro d ds xs hd ih;rw[Iu hd,Iw,if_pos hd,qav,qav,Cg,Cg,ih,qb9];omega
 .intro d ds x xs hd _ _ ih;rw[Iv hd,Iw,if_neg hd,qcx,qb9,qay,EL,ih,qav,Cg];show _=_ - Cw ((c d*x)::List.zipWith _ _ _);rw[Cg]
  by_cases he:d.am=x
  .rw[if_pos he,he];show Cw []+_=_;have:Cw []=0:=rfl;rw[this];omega
  .rw[if_neg he];show Cw [c { d with am:=d.am - x }*(d.am - x)]+_=_;have h1:∀z:Int,Cw [z]=z:=fun z=>by rw[Cg];show z+0=z;omega
   rw[h1,hc,Int.mul_sub];omega
theorem Af4{nx:Int}{ds:List Du}{xs:List Int}(h:PayIn (opn ds) xs)(ho:ofC ds nx=0):ofC (Eo ds xs) nx=0:=by
 obtain⟨h1,h2,h3,h4⟩:=F7.1 ho;have h5:=Aca h 0 h3;have h6:=Acb h;have h7:=Acc (fun _=>1) (fun _ _=>rfl) h;simp only[Int.one_mul]at h7;obtain⟨ha,hb⟩:=Dr.1 h4;refine F7.2 ⟨by omega,h2,h5,Dr.2 ⟨fun x hx=>?_,?_⟩⟩
 .obtain⟨d,hd,rfl⟩:=qag.1 hx;have:=((JL h5).1 d hd).2.2.2;unfold Es at this;simp only[qaf]at this;exact this.2.2.1
 .have h8:0<=Cw (List.zipWith (fun _ x=>x) (opn ds) xs):=Hm fun x hx=>by
   obtain⟨i,hi⟩:=qbs.1 hx;rw[qdx]at hi
   cases h9:(opn ds)[i]? with
   |none=>rw[h9]at hi;cases hi
   |some d =>
    cases h10:xs[i]? with
    |none=>rw[h9,h10]at hi;cases hi
    |some y =>
     rw[h9,h10]at hi
     injection hi with hi
     have:=(h.2 i d y h9 h10).1;omega
  show Cw ((Eo ds xs).map fun d=>d.am)<=_;rw[h7];show Cw (ds.map fun d=>d.am) - _<=_;have hb':Cw (ds.map fun d=>d.am)<=4503599627370496:=hb;omega
def Lv(ds:List Du):List (Du × Int)->Prop
 | []=>True
 |p::ps=>(C6 ds p.1.id=some p.1/\p.1.held=false/\0<=p.2/\p.2<=p.1.am)/\Lv (HO ds p.1.id p.2) ps
def KC(ds:List Du):List (Du × Int)->List Du
 | []=>ds
 |p::ps=>KC (HO ds p.1.id p.2) ps
theorem Uc(ps qs:List (Du × Int)):∀ds,KC ds (ps++qs)=KC (KC ds ps) qs:=by
 induction ps with
 |nil=>intro ds;rfl
 |cons p ps ih=>intro ds;exact ih _
theorem SK{ps qs:List (Du × Int)}:∀{ds},Lv ds (ps++qs)->Lv ds ps/\Lv (KC ds ps) qs:=by
 induction ps with
 |nil=>intro ds h;exact⟨trivial,h⟩
 |cons p ps ih=>intro ds h;exact⟨⟨h.1,(ih h.2).1⟩,(ih h.2).2⟩
theorem Ud{ds:List Du}{ps:List (Du × Int)}(h:Lv ds ps){i:Nat}{p:Du × Int}(hp:ps[i]?=some p):(C6 (KC ds (ps.take i)) p.1.id=some p.1/\p.1.held=false/\0<=p.2/\p.2<=p.1.am)/\KC ds (ps.take (i+1))=HO (KC ds (ps.take i)) p.1.id p.2:=by
 have hs:ps=ps.take i++ps.drop i:=(qbp i ps).symm
 have hd:ps.drop i=p::ps.drop (i+1):=by
  have hl:=C0 hp;rw[qdd hl];rw[qbz hl]at hp
  injection hp with hp
  rw[hp]
 rw[hs,hd]at h;refine⟨(SK h).2.1,?_⟩;rw[qbw,hp];exact Uc _ [p] ds
theorem Yy{ds:List Du}{p:Du × Int}(h:C6 ds p.1.id=some p.1/\p.1.held=false/\0<=p.2/\p.2<=p.1.am):NK ds p.1.id p.2=0/\TZ ds p.1.id p.2=HO ds p.1.id p.2:=by
 have h1:NK ds p.1.id p.2=0:=by
  unfold NK pC;rw[h.1];show(if p.2<0 then(1:Int)else if p.1.held=true then 14 else if p.1.am<p.2 then 12 else 0)=0;rw[if_neg (by omega),h.2.1,if_neg (by decide),if_neg (by omega)]
 exact⟨h1,by unfold TZ;rw[if_pos h1]⟩
theorem Acd{P ds:List Du}{k x:Int}(h:∀d∈P,d.id≠k):HO (P++ds) k x=P++HO ds k x:=by
 induction P with
 |nil=>rfl
 |cons y P ih =>
  show(if y.id=k then _ else y::HO (P++ds) k x)=_;rw[if_neg (h y (qai ..)),ih fun d hd=>h d (qah _ hd)];rfl
theorem Yz{P ds:List Du}{k:Int}(h:∀d∈P,d.id≠k):C6 (P++ds) k=C6 ds k:=by
 unfold C6;rw[List.find?_append,List.find?_eq_none.2 fun d hd=>by simpa using h d hd];rfl
theorem Af5{ds:List Du}{xs:List Int}(h:PayIn (opn ds) xs):∀P:List Du,((P++ds).map (·.id)).Nodup->Lv (P++ds) ((opn ds).zip xs)/\KC (P++ds) ((opn ds).zip xs)=P++Eo ds xs:=by
 refine Jq (motive:=fun ds xs=>∀P:List Du,((P++ds).map (·.id)).Nodup->Lv (P++ds) ((opn ds).zip xs)/\KC (P++ds) ((opn ds).zip xs)=P++Eo ds xs) ?_ ?_ ?_ ds xs h
 .intro xs P _;exact⟨trivial,rfl⟩
 .intro d ds xs hd ih P hn;rw[Iw,if_pos hd,Iu hd,qb9];have:=ih (P++[d]) (by rw[qaz];exact hn);rw[qaz,qaz]at this;exact this
 .intro d ds x xs hd h0 h1 ih P hn
  have hP:∀e∈P,e.id≠d.id:=fun e he h=>by
   rw[qay,qdu]at hn;exact hn.2.2 e.id (qa5 (f:=fun d:Du=>d.id) he) d.id (qa5 (f:=fun d:Du=>d.id) (qai ..)) h
  have hpl:HO (P++d::ds) d.id x=P++((if d.am=x then[]else[{ d with am:=d.am - x }])++ds):=by
   rw[Acd hP]
   congr 1
   show(if d.id=d.id then _ else _)=_;rw[if_pos rfl]
   split <;> rfl
  rw[Iw,if_neg hd,Iv hd];show((C6 (P++d::ds) d.id=some d/\d.held=false/\0<=x/\x<=d.am)/\Lv (HO (P++d::ds) d.id x) ((opn ds).zip xs))/\KC (HO (P++d::ds) d.id x) ((opn ds).zip xs)=_;rw[hpl,<-qaz]
  have hn2:((P++(if d.am=x then([]:List Du)else[{ d with am:=d.am - x }])++ds).map fun d:Du=>d.id).Nodup:=by
   split
   .rw[qa3];refine List.Nodup.sublist ?_ hn;exact List.Sublist.map _ (List.Sublist.append (List.Sublist.refl _) (List.sublist_cons_self _ _))
   .rw[qaz,qay]at *;exact hn
  obtain⟨i1,i2⟩:=ih _ hn2;refine⟨⟨⟨?_,by simpa using hd,h0,h1⟩,i1⟩,by rw[i2,qaz]⟩;rw[Yz hP];unfold C6;rw[qb2,show(d.id == d.id)=true by simp]
theorem Ace{l:List Int}(h:l.Pairwise (·<·)):l.Nodup:=h.imp fun h=>by omega
theorem KD{nx:Int}{ds:List Du}(h:ofC ds nx=0):(ds.map (·.id)).Nodup:=Ace (JL (F7.1 h).2.2.1).2.1
theorem Acf{nx:Int}{ds:List Du}(h:ofC ds nx=0){d:Du}(hd:d∈ds):0<d.id/\d.id<nx/\Es d=true:=by
 have:=(JL (F7.1 h).2.2.1).1 d hd;exact⟨this.1,this.2.2⟩
theorem DA{d:Du}(h:Es d=true):(0<=d.fr/\d.fr<16)/\(0<=d.to/\d.to<16)/\d.fr≠d.to/\(1<=d.am/\d.am<=4503599627370496)/\(1<=d.we/\d.we<=1000)/\0<=d.un:=by
 unfold Es Dc QR at h;simp only[qaf,qas,qce,qen]at h;exact⟨h.1.1,h.1.2.1,h.1.2.2,⟨h.2.1,h.2.2.1.2⟩,⟨h.2.2.2.1,h.2.2.2.2.1⟩,h.2.2.2.2.2⟩
def VI(ds:List Du):Prop:=∀d∈ds,0<=d.am/\d.am<=4503599627370496
theorem of_am{nx:Int}{ds:List Du}(h:ofC ds nx=0):VI ds:=fun d hd=>by
 have:=(DA (Acf h hd).2.2).2.2.2.1;omega
theorem Af6{ds:List Du}{k x:Int}{e:Du}(h:VI ds)(hf:C6 ds k=some e)(h0:0<=x)(h1:x<=e.am):VI (HO ds k x)/\(HO ds k x).length<=ds.length:=by
 induction ds with
 |nil=>cases hf
 |cons d ds ih =>
  unfold C6 at hf;rw[qb2]at hf;have hd:=h d (qai ..);unfold HO
  by_cases hk:d.id=k
  .rw[show(d.id == k)=true by simpa using hk]at hf
   injection hf with hf
   subst hf;rw[if_pos hk]
   split
   .exact⟨fun e he=>h e (qah _ he),by simp⟩
   .refine⟨fun e he=>?_,by simp⟩
    rcases qae.1 he with rfl|he
    .exact⟨by show 0<=d.am - x;omega,by show d.am - x<=_;omega⟩
    .exact h e (qah _ he)
  .rw[show(d.id == k)=false by simpa using hk]at hf;obtain⟨i1,i2⟩:=ih (fun e he=>h e (qah _ he)) hf;rw[if_neg hk];refine⟨fun e he=>?_,by simpa using i2⟩
   rcases qae.1 he with rfl|he
   .exact hd
   .exact i1 e he
theorem WO{ds:List Du}{ps:List (Du × Int)}(h:VI ds)(hp:Lv ds ps):∀i,VI (KC ds (ps.take i))/\(KC ds (ps.take i)).length<=ds.length
 |0=>⟨h,qan _⟩
 |i+1=>by
  obtain⟨i1,i2⟩:=WO h hp i
  cases hi:ps[i]? with
  |none=>rw[qbw,hi];show VI (KC ds (ps.take i++[]))/\(KC ds (ps.take i++[])).length<=_;rw[qa3];exact⟨i1,i2⟩
  |some p =>
   obtain⟨h1,h2⟩:=Ud hp hi;rw[h2];obtain⟨h3,h4⟩:=Af6 i1 h1.1 h1.2.2.1 h1.2.2.2;exact⟨h3,qa0 h4 i2⟩
theorem HQ(rs:List Int)(os:List Du)(net:Bool):(BL rs os net).length=os.length+if net=true then 0 else 2*rs.length:=by
 unfold BL;rw[qat,qak]
 split
 .rfl
 .rw[WM]
theorem JM{rs:List Int}{os:List Du}{net:Bool}{i:Nat}{d:Du}(h:os[i]?=some d):(BL rs os net)[i]?=some (LK d):=by
 unfold BL;have hl:=C0 h;rw[qcb (by rw[qak];exact hl),qa1,h];rfl
theorem Lf{rs:List Int}{os:List Du}{j:Nat}{e:Ed}(h:(Nm rs)[j]?=some e):(BL rs os false)[os.length+j]?=some e:=by
 unfold BL;rw[qcf (by rw[qak];omega),qak,show os.length+j - os.length=j by omega,if_neg (by decide),h]
def WP(n:Nat)(d:Du):Prop:=Es d=true/\d.fr<n/\d.to<n
theorem QZ{n:Nat}:∀{os:List Du},(∀d∈os,WP n d)->((((os.map LK).map Hy).sum:Nat):Int)<=1000*Cw (os.map Du.am)
 | [],_=>by show(0:Int)<=1000*0;omega
 |d::os,h=>by
  have ih:=QZ (os:=os) fun e he=>h e (qah _ he);have hm:=DA (h d (qai ..)).1;rw[qav,qav,List.sum_cons,qav,Cg];have h1:Hy (LK d)<=d.am.toNat*1000:=qd9 _ (by show(-d.we).natAbs<=1000;omega);have h2:((d.am.toNat:Nat):Int)=d.am:=qd0 (by omega);have h3:((Hy (LK d):Nat):Int)<=d.am*1000:=by omega
  rw[qde,Int.mul_add];omega
theorem Y0{rs:List Int}{os:List Du}{net:Bool}(hn:rs.length<=16)(hm:os.length<=64)(hrs:∀x∈rs,Dc x=true)(hos:∀d∈os,WP rs.length d)(hsum:Cw (os.map Du.am)<=4503599627370496):C2 ((rs.length+1:Nat):Int) (BL rs os net)=true:=by
 have hl:=HQ rs os net;have hE:(BL rs os net).length<=200:=by rw[hl];split <;> omega
 have hall:(BL rs os net).all (Gl ((rs.length+1:Nat):Int))=true:=by
  rw[qau];intro e he;unfold BL at he
  rcases qbi.1 he with he|he
  .obtain⟨d,hd,rfl⟩:=qag.1 he;obtain⟨h1,h2,h3⟩:=hos d hd;have:=DA h1;unfold Gl M1 LK;simp only[qaf,qas];omega
  .split at he
   .cases he
   .unfold Nm at he;obtain⟨j,hj,rfl⟩:=qag.1 he;rw[qa6]at hj;obtain⟨r,hr⟩:=AA (l:=rs) (i:=j / 2);have hr2:=CN.1 (hrs r (qac hr));unfold Gl M1;rw[Bs hr]
    split
    .simp only[qaf,qas];omega
    .simp only[qaf,qas];omega
 have hp:Gm (BL rs os net)<=4611686018427387904:=by
  unfold Gm BL;rw[qay,List.sum_append];have h1:=QZ hos
  have h2:((if net=true then[]else Nm rs).map Hy).sum=0:=by
   split
   .rfl
   .unfold Nm;rw[qbx]
    have:∀l:List Nat,(l.map (Hy ∘ fun j=>if j % 2=0 then(⟨rs.length,(j / 2:Nat),rs.getD (j / 2) 0,0⟩:Ed)else⟨(j / 2:Nat),rs.length,4503599627370496,0⟩)).sum=0:=by
     intro l
     induction l with
     |nil=>rfl
     |cons j l ih =>
      rw[qav,List.sum_cons,ih];show Hy (if j % 2=0 then _ else _)+0=0
      split <;> rfl
    exact this _
  rw[h2];omega
 unfold C2;rw[hall,qar hE,qar hp,qar (show(1:Int)<=((rs.length+1:Nat):Int)by omega),qar (show((rs.length+1:Nat):Int)<=40 by omega)];rfl
theorem PB{g:Gr}{x:Nat->Int}{n m:Nat}(hE:∀k,k<n->(g.f (m+2*k)=n/\g.t (m+2*k)=k)/\g.f (m+2*k+1)=k/\g.t (m+2*k+1)=n){v:Nat}(hv:v<n):∀j,j<=n->Em g x (m+2*j) v=Em g x m v+if v<j then x (m+2*v) - x (m+2*v+1)else 0
 |0,_=>by rw[if_neg (by omega)];simp
 |j+1,hj=>by
  obtain⟨⟨h1,h2⟩,h3,h4⟩:=hE j (by omega);rw[show m+2*(j+1)=m+2*j+1+1 by omega,GG,GG,h1,h2,h3,h4,PB hE hv j (by omega),FN (show ¬n=v by omega)]
  by_cases e:j=v
  .subst e;rw[Gz rfl,if_neg (by omega),if_pos (by omega)];omega
  .rw[FN e]
   by_cases h:v<j
   .rw[if_pos h,if_pos (by omega)];omega
   .rw[if_neg h,if_neg (by omega)];omega
theorem Ue{N:Int}{es:List Ed}{i:Nat}{e:Ed}(h:es[i]?=some e):(grE N es).f i=e.f.toNat:=by show(es.getD i e0).f.toNat=_;rw[Bs h]
theorem Uf{N:Int}{es:List Ed}{i:Nat}{e:Ed}(h:es[i]?=some e):(grE N es).t i=e.t.toNat:=by show(es.getD i e0).t.toNat=_;rw[Bs h]
theorem Ug{N:Int}{es:List Ed}{i:Nat}{e:Ed}(h:es[i]?=some e):(grE N es).co i=e.cost:=by show(es.getD i e0).cost=_;rw[Bs h]
def byK(rs:List Int)(os:List Du)(net:Bool)(fl:List Int)(k:Nat):Int:=Em (grE ((rs.length+1:Nat):Int) (BL rs os net)) (flE fl) os.length k
theorem Uh{rs:List Int}{os:List Du}{net:Bool}{fl:List Int}(hrs:∀x∈rs,0<=x)(hos:∀d∈os,WP rs.length d)(hf:Ga ((rs.length+1:Nat):Int) (BL rs os net) fl=true) :
  PayIn os (fl.take os.length)/\fl.length=(BL rs os net).length/\(∀(k:Nat) (r:Int),rs[k]?=some r->(net=true->byK rs os net fl k=0) /\ -r<=byK rs os net fl k/\byK rs os net fl k<=4503599627370496)/\BC (byK rs os net fl) rs.length=0:=by
 obtain⟨hw,hz⟩:=EX hf;obtain⟨hl,hr,hin⟩:=Cx hw;have hlen:=HQ rs os net;refine⟨⟨by rw[qbm];omega,fun i d x hd hx=>?_⟩,hl,fun k r hk=>?_,?_⟩
 .have hi:=C0 hd;rw[qbv,if_pos hi]at hx;exact hin i (LK d) x (JM hd) hx
 .have hkn:=C0 hk;have h0:=hz k (by omega);have hE:(grE ((rs.length+1:Nat):Int) (BL rs os net)).E=(BL rs os net).length:=rfl;unfold BD at h0;rw[hE,hlen]at h0;have hr0:=hrs r (qac hk)
  cases net with
  |true =>
   rw[if_pos rfl,qdr]at h0;have h0':byK rs os true fl k=0:=h0;exact⟨fun _=>h0',by omega,by omega⟩
  |false =>
   rw[if_neg (by decide),PB (x:=flE fl) (n:=rs.length) (fun j hj=>?_) hkn rs.length (qan _),if_pos hkn]at h0
   .obtain⟨y,hy⟩:=AA (l:=fl) (i:=os.length+2*k) (h:=by rw[hl,hlen,if_neg (by decide)];omega);obtain⟨z,hzz⟩:=AA (l:=fl) (i:=os.length+2*k+1) (h:=by rw[hl,hlen,if_neg (by decide)];omega);have h1:=hin _ _ y (Lf (M9 hk)) hy;have h2:=hin _ _ z (by rw[qcq];exact Lf (Oa hkn)) hzz;rw[show flE fl (os.length+2*k)=y from Bs hy,show flE fl (os.length+2*k+1)=z from Bs hzz]at h0;have h0':byK rs os false fl k+(y - z)=0:=h0;dsimp only at h1 h2;exact⟨(fun h=>by cases h),by omega,by omega⟩
   .obtain⟨r',hr'⟩:=AA (h:=hj);have e1:(BL rs os false)[os.length+2*j]?=_:=Lf (M9 hr');have e2:(BL rs os false)[os.length+2*j+1]?=some ⟨j,rs.length,4503599627370496,0⟩:=by rw[qcq];exact Lf (Oa hj)
    rw[Ue e1,Uf e1,Ue e2,Uf e2];dsimp only;omega
 .have:=over_all ⟨rs.length,os.length,(grE ((rs.length+1:Nat):Int) (BL rs os net)).f,(grE ((rs.length+1:Nat):Int) (BL rs os net)).t,fun _=>0⟩ ⟨fun i hi=>?_,fun i hi=>?_⟩ (flE fl)
  .exact this
  .obtain⟨d,hd⟩:=AA (l:=os) (i:=i) (h:=hi);obtain⟨h1,h2,h3⟩:=hos d (qac hd);have:=DA h1;dsimp only;rw[Ue (JM hd)];unfold LK;dsimp only;omega
  .obtain⟨d,hd⟩:=AA (l:=os) (i:=i) (h:=hi);obtain⟨h1,h2,h3⟩:=hos d (qac hd);have:=DA h1;dsimp only;rw[Uf (JM hd)];unfold LK;dsimp only;omega
theorem Y1{xs ys:List Int}(hl:xs.length=ys.length)(hx:∀x∈xs,Dc x=true)(hy:∀y∈ys,GH y=true)(hs:Cw ys=0)(hz:∀z∈Df xs ys,Dc z=true):DF xs ys=0:=by
 unfold DF IH;rw[qar hl,qau.2 hx,qau.2 hy,qar hs,if_neg (by decide),if_neg,if_neg]
 .rw[qau.2 hz];decide
 .rw[qau.2 fun z h=>qar (CN.1 (hz z h)).1];decide
theorem PC:∀{xs ys:List Int},xs.length=ys.length->Cw (Df xs ys)=Cw xs+Cw ys
 | [],[],_=>rfl
 | [],_::_,h=>by cases h
 |_::_,[],h=>by cases h
 |x::xs,y::ys,h=>by
  have ih:=PC (xs:=xs) (ys:=ys) (by simpa using h);show Cw ((x+y)::Df xs ys)=_;rw[Cg,Cg,Cg,ih];omega
theorem Ui{xs:List Int}(h:∀x∈xs,0<=x):∀x∈xs,x<=Cw xs:=by
 induction xs with
 |nil=>intro x hx;cases hx
 |cons y xs ih =>
  intro x hx;rw[Cg];have h0:=h y (qai ..);have h1:=Hm fun z hz=>h z (qah _ hz)
  rcases qae.1 hx with rfl|hx
  .omega
  .have:=ih (fun z hz=>h z (qah _ hz)) x hx;omega
theorem Co{acs:List Ac}:El acs=0↔acs.length<=16/\(∀a∈acs,IJ a=true)/\(ER (acs.map Ac.ba)).2=0:=by
 unfold El
 by_cases h1:16<acs.length
 .rw[if_pos h1];exact⟨fun h=>by simp at h,fun h=>absurd h.1 (by omega)⟩
 rw[if_neg h1]
 cases h2:acs.all IJ with
 |false =>
  rw[if_pos rfl];refine⟨fun h=>by simp at h,fun h=>?_⟩;rw[qau.2 h.2.1]at h2;cases h2
 |true =>
  rw[if_neg (by decide)];rw[qau]at h2;exact⟨fun h=>⟨by omega,h2,h⟩,fun h=>h.2.2⟩
theorem Gp{a:Ac}:IJ a=true↔(0<=a.ba/\a.ba<=4503599627370496)/\0<=a.re/\a.re<=4503599627370496:=by
 unfold IJ;rw[qaf,CN,CN]
theorem WQ{acs:List Ac}{by':Nat->Int}(hs:DF (acs.map Ac.ba) (tab by' acs.length)=0){k:Nat}{a:Ac}(hk:acs[k]?=some a):(shA acs (tab by' acs.length))[k]?=some ⟨a.ba+by' k,a.re⟩:=by
 unfold shA;rw[if_pos hs,qdx,hk,BW (C0 hk)]
theorem SM{acs:List Ac}{by':Nat->Int}:(shA acs (tab by' acs.length)).length=acs.length:=by
 unfold shA
 split
 .rw[qcn,Di];omega
 .rfl
theorem KE{acs:List Ac}{by':Nat->Int}(ha:El acs=0)(hb:∀(k:Nat) (a:Ac),acs[k]?=some a -> -(Dz a)<=by' k/\by' k<=4503599627370496)(hs:BC by' acs.length=0) :
  DF (acs.map Ac.ba) (tab by' acs.length)=0/\El (shA acs (tab by' acs.length))=0:=by
 obtain⟨h1,h2,h3⟩:=Co.1 ha;obtain⟨h4,h5⟩:=Dr.1 h3;have hl:(acs.map Ac.ba).length=(tab by' acs.length).length:=by rw[qak,Di]
 have hsum:Cw (tab by' acs.length)=0:=by rw[Abo];exact hs
 have hat:∀z∈Df (acs.map Ac.ba) (tab by' acs.length),∃k a,acs[k]?=some a/\z=a.ba+by' k:=fun z hz=>by
  obtain⟨k,hk⟩:=qbs.1 hz;have hkl:=C0 hk;unfold Df at hkl;rw[qcn,qak,Di]at hkl;obtain⟨a,hka⟩:=AA (l:=acs) (i:=k);rw[K6 (x:=a.ba) (y:=by' k) (by rw[qa1,hka];rfl) (BW (by omega))]at hk
  injection hk with hk
  exact⟨k,a,hka,hk.symm⟩
 have hnn:∀z∈Df (acs.map Ac.ba) (tab by' acs.length),0<=z:=fun z hz=>by
  obtain⟨k,a,hk,rfl⟩:=hat z hz;have:=hb k a hk;have h6:=Gp.1 (h2 a (qac hk));unfold Dz at this;omega
 have htot:=PC hl;rw[hsum]at htot
 have hmay:∀z∈Df (acs.map Ac.ba) (tab by' acs.length),Dc z=true:=fun z hz=>by
  have:=Ui hnn z hz;exact CN.2 ⟨hnn z hz,by omega⟩
 have hC:DF (acs.map Ac.ba) (tab by' acs.length)=0:=by
  refine Y1 hl h4 (fun y hy=>?_) hsum hmay;obtain⟨k,hk⟩:=qbs.1 hy;obtain⟨hkl,rfl⟩:=Pp hk;obtain⟨a,hka⟩:=AA (l:=acs) (i:=k) (h:=hkl);have:=hb k a hka;have h6:=Gp.1 (h2 a (qac hka));unfold Dz at this;unfold GH;rw[qaf,qas,qas];omega
 have hmap:(shA acs (tab by' acs.length)).map Ac.ba=Df (acs.map Ac.ba) (tab by' acs.length):=by
  unfold shA Df;rw[if_pos hC,List.map_zipWith,List.zipWith_map_left]
 refine⟨hC,Co.2 ⟨by rw[SM];exact h1,fun a' ha'=>?_,Dr.2 ⟨by rw[hmap];exact hmay,by rw[hmap];omega⟩⟩⟩;obtain⟨k,hk⟩:=qbs.1 ha';have hkl:=C0 hk;rw[SM]at hkl;obtain⟨a,hka⟩:=AA (l:=acs) (i:=k) (h:=hkl);have h7:=WQ hC hka;rw[h7]at hk
 injection hk with hk
 subst hk;have h8:Dc (a.ba+by' k)=true:=hmay _ (qac (i:=k) (K6 (by rw[qa1,hka];rfl) (BW hkl)));unfold IJ at *;rw[qaf];have:=h2 a (qac hka);rw[qaf]at this;exact⟨h8,this.2⟩
structure Bright(rs:List Int)(ds:List Du):Prop where
 n16:rs.length<=16
 may:∀x∈rs,Dc x=true
 m64:ds.length<=64
 due:∀d∈ds,WP rs.length d
 tot:Cw (ds.map Du.am)<=4503599627370496
theorem Ix{rs:List Int}{ds:List Du}(hl:ds.length<=1000000:=by omega):D5 rs ds=true↔Bright rs ds:=by
 rw[<-Alf rs ds hl];unfold r19B;simp only[qaf,qas,qau,dueB];constructor
 .rintro⟨⟨h1,h2⟩,h3,h4,h5⟩;exact⟨h1,h3,h2,fun d hd=>⟨(h4 d hd).1,(h4 d hd).2.1,(h4 d hd).2.2⟩,(Dr.1 h5).2⟩
 .rintro⟨h1,h3,h2,h4,h5⟩;refine⟨⟨h1,h2⟩,h3,fun d hd=>⟨(h4 d hd).1,(h4 d hd).2.1,(h4 d hd).2.2⟩,Dr.2 ⟨fun x hx=>?_,h5⟩⟩;obtain⟨d,hd,rfl⟩:=qag.1 hx;have:=(DA (h4 d hd).1).2.2.2.1;exact CN.2 ⟨by omega,this.2⟩
theorem WR{ds:List Du}{d:Du}(h:d∈opn ds):d∈ds/\d.held=false:=by
 unfold opn at h;rw[qbd]at h;exact⟨h.1,by simpa using h.2⟩
theorem IK(ds:List Du):(opn ds).length<=ds.length:=qdl _ _
theorem WS{ds:List Du}(h:∀d∈ds,0<=d.am):Cw ((opn ds).map Du.am)<=Cw (ds.map Du.am):=by
 induction ds with
 |nil=>exact qax _
 |cons d ds ih =>
  have h0:=h d (qai ..);have ih:=ih fun e he=>h e (qah _ he);rw[Iw,qav,Cg]
  split
  .rw[qb9];omega
  .show Cw (d.am::(opn ds).map Du.am)<=_;rw[Cg];omega
theorem Bright.open'{rs:List Int}{ds:List Du}(h:Bright rs ds):Bright rs (opn ds) :=
 ⟨h.n16,h.may,qa0 (IK ds) h.m64,fun d hd=>h.due d (WR hd).1,qbg (WS fun d hd=>by have:=(DA (h.due d hd).1).2.2.2.1;omega) h.tot⟩
theorem Bright.right{rs:List Int}{ds:List Du}(h:Bright rs ds)(net:Bool):C2 ((rs.length+1:Nat):Int) (BL rs (opn ds) net)=true :=
 Y0 h.n16 h.open'.m64 h.may h.open'.due h.open'.tot
theorem LM{acs:List Ac}{ds:List Du}{nx:Int}(ha:El acs=0)(hd:ofC ds nx=0)(hb:∀d∈ds,d.fr<acs.length/\d.to<acs.length):Bright (acs.map Dz) ds:=by
 obtain⟨h1,h2,h3⟩:=Co.1 ha;obtain⟨h4,h5,h6,h7⟩:=F7.1 hd;refine⟨by rw[qak];exact h1,fun x hx=>?_,h4,fun d hd'=>⟨(Acf hd hd').2.2,by rw[qak];exact(hb d hd').1,by rw[qak];exact(hb d hd').2⟩,(Dr.1 h7).2⟩;obtain⟨a,ha',rfl⟩:=qag.1 hx;have:=Gp.1 (h2 a ha');unfold Dz;exact CN.2 ⟨by omega,by omega⟩
theorem Uj{P:Program}{e:Env}{w:World}{fn:Func}{R:Value->World->Prop}{a s2 s3:Tmp}{t:TypeId}{p:Addr}{v2 v3:Value}(hr:fn.results=#[.cell a t,.tmp s2,.tmp s3])(ha:e.g a=.pointer (some p))(h2:e.g s2=v2)(h3:e.g s3=v3)(h:Marks e.ds w fun w'=>∃v,(loadVar t p).run P w'=.ok v w'/\R (.tuple #[v,v2,v3]) w'):Tp P fn R .ret e w :=
 Marks.mono (fun w ⟨v,hv,h⟩ tmps ht=>by
  have h1:=(ht a).trans ha;have g2:=(ht s2).trans h2;have g3:=(ht s3).trans h3;rw[qa2]at h1 g2 g3
  exact⟨.tuple #[v,v2,v3],by simp[results,hr,h1,g2,g3,asAddr,hv],h⟩) h
def RoundRes(w:World)(rs:List Int)(ds:List Du)(net:Bool)(v:Value)(w':World):Prop :=
 Ext [] w w'/\((D5 rs ds=false/\v=.tuple #[DV 0 none 0 0,.slice none 0 0,.int .i64 1]) \/
  (D5 rs ds=true/\∃aE nE cE vI,v=.tuple #[DV ((rs.length+1:Nat):Int) aE nE cE,vI,.int .i64 0]/\Sl w w' (.slice aE nE cE) 4 CJ (BL rs (opn ds) net)/\Sl w w' vI 1 U1 ((opn ds).map Du.id)))
def rndJ(ws:World)(b6:Nat)(N:Int)(es:List Ed)(i:Nat)(M:Mt)(w:World):Prop :=
 ∃a c full,(M=fun y=>y∈((b6,Bl 123 [.int .i64 N,.slice a i c])::ent a 158 full).map (·.1))/\Ctx ws [b6] w ((b6,Bl 123 [.int .i64 N,.slice a i c])::ent a 158 full) /\
  OS a i c 4 full ((es.take i).flatMap CJ)/\∀y∈((b6,Bl 123 [.int .i64 N,.slice a i c])::ent a 158 full).map (·.1),y≠ws.heap.size/\y≠ws.heap.size+1
theorem HZ(a b:Option Addr)(n c m e:Nat)(rs:List Int)(ds:List Du)(net:Bool)(w:World)(R:Rd w a 1 I1 rs)(hn:rs.length=n)(Rd':Rd w b 7 CS ds)(hm:ds.length=m)(hn2:n<=1000000:=by omega)(hm2:m<=1000000:=by omega):
  Ret prog 115 #[.slice a n c,.slice b m e,.bool net] w (RoundRes w rs ds net):=by
 subst hn hm;obtain⟨w0,rfl,H⟩:=qE w;obtain⟨bb,hbb⟩:=qD (D5 rs ds);obtain⟨os,hos⟩:=qD (opn ds);have hol:os.length<=ds.length:=by rw[hos];exact IK ds
 refine HU (fn:=f115) func115 U [.slice a rs.length c,.slice b ds.length e,.bool net] U (Ad (AU Ks H ?_));rintro b6 w - H;refine A4 U (Ae U (qA (Ao (Ad (A2 U (A2 U (Al qB (Yw a b _ c _ e rs ds _ (R.ext0 H.ext) U hn2 (Rd'.ext0 H.ext) U hm2) U ?_)))))));rintro v w ⟨rfl,hx14⟩;replace H:=H.call hx14;rw[<-hbb];refine BE U (qA (An _ U ?_ ?_))
 .intro h1;replace h1:=B7 h1;refine Ad (Cj C7 Cp U H at0 U (Bj Cp U U U (by simp[AZ]) H at0 U ?_));rintro w H;refine A4 U (Ae U (qA (A7 (Av (Uj U U U U ?_)))));exact⟨_,F5 C7 Cp U (fun j v hv=>by rw[Aj (H.get at0),qa4];exact hv),H.ext,.inl ⟨by rw[<-hbb];exact h1,rfl⟩⟩
 .intro h1;replace h1:=B9 h1;refine Aq (Aa (Ad (A2 U (Ba AV U (Az U U ?_)))));refine Ah Eg U (Ct (.int _ _) Gy U U U H at0 (by decide) ?_);rintro w H;refine qA (Ad (A2 U (Al qB (WL b _ e ds _ (Rd'.ext0 H.ext) U hm2) U ?_)));rintro v w F;rw[<-hos]at F;obtain⟨a4,n4,c4,f4,rfl,O4,hb4⟩:=F.ex;have hl4:=O4.llen;rw[P9]at hl4;obtain rfl:os.length=n4:=by omega
  refine A4 U (qA (Ao ?_));have hb6:=H.lt at0;have RO:Rd w a4 7 CS os:=OS.rd O4 (fun y hy=>(hb4 y hy).1) (fun _ _=>rfl) (by omega)
  have hROn:os≠[]->(adr a4).block∉[b6]:=fun hne=>by
   obtain⟨q,rfl⟩:=O4.form (qbn.2 hne);have:=(hb4 (q,Bl 118 f4) (qab.2 rfl)).2;rw[qab];show q≠b6;dsimp only at this;omega
  have H4:=H.call F.ext;have hs4:=H4.size;have hl64:=H4.lt at0;obtain⟨w4,rfl⟩:=qD w;have H:=Ctx.lend (L1:=[_]) (L2:=[]) H4;dsimp only[List.map]at H;refine Ad (A2 U (Ba Dh U (Af U (qA (A1 (Bt 34326185088 (α:=LSt) (fun t=>[(7,.slice t.a t.i t.c),(25,.int .i64 (t.i:Int))]) (fun t w'=>t.i<=os.length/\OS t.a t.i t.c 1 t.full (((os.take t.i).map Du.id).map G3)/\Ctx w4 [b6] w' ((b6,Bl 123 [.int .i64 ((rs.length:Int)+1),.slice none 0 0])::ent t.a 23 t.full)) (fun t=>os.length - t.i) ⟨0,none,0,[]⟩ U ?_ ?_ ?_))))))
  .exact⟨rfl,rfl,trivial⟩
  .exact⟨qaj _,OS.nil,H⟩
  .clear H;rintro⟨i,a2,c2,full⟩ jj w ⟨hi,O,H⟩;dsimp only at hi O H;dsimp only;refine Ad (Bm U U (qA (Ao (An _ U ?_ ?_))))
   .intro h3;replace h3:=AM h3;obtain⟨d,hd⟩:=AA (l:=os) (i:=i);refine Aq (Aa (Ao (A1 (Ad (Be RO Dh BO U U (by rfl) ?_)))));refine BQ _ DT BO U U ((RO.ext' H.ext hROn).row hd U) (AU D4 H ?_);rintro b10 w - H;refine Bj BO U U U (by exact CW _) H at0 U ?_;rintro w H;refine qA (A0 (A2 U (Ah FJ U (AB Bz U H at0 U (Cs _ (.int _ _) Bh Bo Pi U U U U H ?_)))));rintro b32 w - H;refine CI (L:=[_,_]) Bh Bh Bo Wm Pi U U U H O U (by simp[AZ]) ?_;rintro a' c' full' w H O;refine A4 U (Ab (A8 (Aa (A0 (Az U U ?_)))));refine Af U (qA ?_);exact⟨⟨i+1,a',c',full'⟩,rfl,⟨rfl,rfl,trivial⟩,⟨by dsimp only;omega,by dsimp only;rw[KA hd,qay];exact O,H.tail⟩,by dsimp only;omega⟩
   .intro h3;replace h3:=AN h3;obtain rfl:i=os.length:=by omega
    rw[qbj]at O;refine Bp (Am (Am (AO (Aa (Ao (Ad (A2 U (A2 U (Aw U (Al qB (Yx a a4 _ c _ c4 net _) U ?_))))))))));rintro v w ⟨x1,x2,x3,rfl,H10⟩;have H5:=H.call H10.ext;refine qA (A1 ?_);have RI0:Rd w a2 1 U1 (os.map Du.id):=O.rd1 fun x hx=>H5.blk x (qah _ hx)
    have hRIn:os.map Du.id≠[]->w4.heap.size<=(adr a2).block:=fun hne=>by
     obtain⟨q,rfl⟩:=O.form (by have:=qbn.2 hne;rw[qak]at this;exact this)
     rcases H.own (q,Bl 23 full) (qah _ (qab.2 rfl))with h|h
     .exact absurd (qab.1 h) fun h=>H.ne (i:=1) (j:=0) rfl rfl (by decide) h
     .exact h
    have hk1:=H10.get at1;have hk2:=H10.get at0;have hk3:=H10.get at2;have ho1:=(H10.own _ (qac at1)).elim (fun h=>by cases h) id;have ho2:=(H10.own _ (qac at0)).elim (fun h=>by cases h) id;have ho3:=(H10.own _ (qac at2)).elim (fun h=>by cases h) id;dsimp only at ho1 ho2 ho3;have hl6:=H.lt at0;have hs5:=H5.size;have hx5:=H4.ext.then H5.ext fun x hx => .inr (by rw[qab.1 hx];exact(H4.own _ (qac at0)).elim (fun h=>by cases h) id);have hb60:w0.heap.size<=b6:=(H4.own _ (qac at0)).elim (fun h=>by cases h) id;have RR:=R.ext0 hx5;have RO5:=RO.ext' H5.ext hROn
    have hwe:∀d∈os,-1000000000<=d.we/\d.we<=1000000000:=fun d hd=>by
     rw[hbb]at h1;have hB:=(Ix).1 h1;rw[hos]at hd;have:=(DA (hB.due d (WR hd).1).1).2.2.2.2.1;omega
    obtain⟨ws,rfl⟩:=qD w;have H:=Ctx.lend (L1:=[_]) (L2:=_) H5;dsimp only[List.map]at H;obtain⟨es,hes⟩:=qD (BL rs os net)
    have hnR:rs≠[]->(adr a).block∉[b6]:=fun hne=>by
     have:=R.lt' (fun _ _=>rfl) (by decide) hne;rw[qab];omega
    have heL:es.length<=3000000:=by rw[hes,HQ];split <;> omega
    refine NT (gf:=165) U qB (VH (b1:=x1) (b2:=x2) (b3:=x3) (a:=a) (b:=a4) (c:=c) (e:=c4) (rs:=rs) (ds:=os) (net:=net) U U hn2 hwe) (by kernel_rfl) (by kernel_rfl) (fun v hv=>by obtain⟨p,-,rfl⟩:=qag.1 hv;rfl)
     (rndJ ws b6 ((rs.length:Int)+1) es) (fun _=>False) (by simp)
     (fun w2 hx2 _=>⟨_,none,0,[],rfl,H.call hx2,OS.nil,by simp[ent];omega⟩)
     (fun i M w' w'' hJ hx=>?_) (fun _ _ h _=>h) (fun i M w' hJ=>?_) ?_ ?_ (fun _ h _=>h.elim)
    .obtain⟨a7,c7,f7,hM,HJ,O7,hne⟩:=hJ;refine⟨a7,c7,f7,hM,HJ.step hx (fun y hy hy2=>?_) (fun x hx => .inr ?_),O7,hne⟩
     .have:=hne _ (qa5 (f:=(·.1)) hy);simp only[qae,qaq,or_false]at hy2;omega
     .simp only[qae,qaq,or_false]at hx;omega
    .obtain⟨a7,c7,f7,hM,HJ,O7,hne⟩:=hJ;refine⟨fun x hx=>?_,HJ.ext.to hk1 (by rw[qab];omega),HJ.ext.to hk2 (by rw[qab];omega),HJ.ext.to hk3 (by rw[qab];omega),RR.ext' HJ.ext hnR,RO5.ext' HJ.ext hROn⟩;rw[hM]at hx;obtain⟨y,hy,rfl⟩:=qag.1 hx;exact⟨AY (HJ.blk y hy),hne _ hx⟩
    .rintro i v M w hxv ⟨a7,c7,f7,rfl,HJ,O7,hne⟩ hsz;rw[qa1]at hxv;obtain⟨ed,hed,rfl⟩:=qc0.1 hxv;rw[<-hes]at hed;have hil:=C0 hed;obtain⟨w1,rfl,H⟩:=qE w;refine A0 (AU FZ H ?_);rintro b11 w - H;refine Bj C9 U U U (by exact Io _) H at0 U ?_;rintro w H;refine Ab ?_;refine⟨H.ext,fun wB hxB=>?_⟩;have hb11:=(H.own _ (qai ..)).elim (fun h=>by cases h) id;dsimp only at hb11;have hs1:=H.size;have hsB:=hxB.size
     have HB:=(HJ.callAdd H.ext (H.get at0) hb11).step hxB (fun y hy=>by
      rw[qab]
      rcases qae.1 hy with rfl|hy
      .dsimp only;omega
      .exact(hne _ (qa5 (f:=(·.1)) hy)).2) (fun z hz => .inr (by rw[qab.1 hz];omega))
     obtain⟨w2,rfl⟩:=qD wB;rw[<-qa3 (_::_::ent a7 158 f7)]at HB;have H:=Ctx.lend (L1:=_::_::ent a7 158 f7) (L2:=[]) HB;obtain⟨SS,hSS⟩:=qD (((b11,Bl 158 (CJ ed))::(b6,Bl 123 [.int .i64 ((rs.length:Int)+1),.slice a7 i c7])::ent a7 158 f7).map (·.1));rw[<-hSS]at H;refine A1 (A0 (Ah CE U (AB D7 U H at1 U (Cj GD C9 U H at0 U (Cs _ (.agg _) C8 C9 FZ U U U U H ?_)))));rintro b43 w - H;refine CI (L:=[_,_]) C8 C8 C9 Vi FZ U U U H O7 U (Io ed) ?_;rintro a' c' full' w H O;refine Ah CE U (Ct (.slice _ _ _) Aah U U U H at1 (by(simp;done)) ?_);rintro w H;refine Ab (A8 ?_);rw[hSS]at H;have HE:=H.ext;have HH:=Ctx.back HB H;rw[qa3]at HH;refine⟨_,⟨a',c',full',rfl,HH.tail,by rw[qbw,hed,qb1];exact O,fun y hy=>?_⟩,fun y hy=>?_,_,HE,fun y hy=>?_⟩
     .obtain⟨z,hz,rfl⟩:=qag.1 hy
      rcases H.own z (qah _ hz)with h|h
      .rcases qae.1 h with h|h
       .dsimp only at h;omega
       .exact hne _ h
      .have:=hxB.size;have:=H.ext.size;omega
     .obtain⟨z,hz,rfl⟩:=qag.1 hy
      rcases H.own z (qah _ hz)with h|h
      .rcases qae.1 h with h|h
       .exact .inr (by dsimp only at h;omega)
       .exact .inl h
      .exact .inr (by have:=hxB.size;omega)
     .rcases qae.1 hy with h|h
      .exact .inr (by dsimp only at h;omega)
      .exact .inl h
    .rintro M w ⟨a7,c7,f7,rfl,HJ,O7,hne⟩ hD;rw[qak,<-hes]at HJ O7 hne;rw[qbj]at O7;have H:=HJ;obtain⟨w1,rfl⟩:=qD w;rw[<-qa3 (_::ent a7 158 f7)]at HJ;have H:=Ctx.lend (L1:=_::ent a7 158 f7) (L2:=[]) HJ;obtain⟨SS,hSS⟩:=qD (((b6,Bl 123 [.int .i64 ((rs.length:Int)+1),.slice a7 es.length c7])::ent a7 158 f7).map (·.1));rw[<-hSS]at H hne;have hDn:ws.heap.size∉SS:=fun h=>(hne _ h).1 rfl;refine A8 (Aa (Ad (Cj C7 Cp U H at0 U (A2 U (Bj Cp U U U (by simp[AZ]) H at0 U ?_)))));rintro w H;refine A4 U (Ae U (qA (A7 (Uj U U U U ?_))));refine HV (H.ext.to hD hDn) U fun wF hxF=>?_;rw[hSS]at H;have HH:=Ctx.back HJ H;rw[qa3]at HH;rw[hSS]at hne
     have HF:=HH.step hxF (fun y hy h=>(hne _ (qa5 (f:=(·.1)) hy)).1 (qab.1 h)) (fun z hz => .inr (by rw[qab.1 hz];omega))
     have hown:∀y∈((b6,Bl 123 [.int .i64 ((rs.length:Int)+1),.slice a7 es.length c7])::ent a7 158 f7),w0.heap.size<=y.1:=fun y hy=>by
      rcases HF.own y hy with h|h
      .rw[qab.1 h];exact hb60
      .have:=hx5.size;omega
     have hxx:=hx5.then HF.ext fun x hx => .inr (by rw[qab.1 hx];exact hb60);refine⟨_,F5 C7 Cp U (fun j v hv=>by rw[Aj (HF.get at0),qa4];exact hv),hxx,.inr ⟨by rw[<-hbb];exact h1,a7,es.length,c7,.slice a2 os.length c2,rfl,?_,?_⟩⟩
     .rw[<-hos,<-hes];refine⟨a7,c7,rfl,O7.le,OS.rd O7 (fun x hx=>HF.blk x (qah _ hx)) (fun _ _=>rfl) (by decide),fun hne'=>?_⟩;obtain⟨q,rfl⟩:=O7.form (qbn.2 hne');exact hown (q,Bl 158 f7) (qah _ (qab.2 U))
     .rw[<-hos];have hd4:os.map Du.id≠[]->w4.heap.size<=(adr a2).block:=hRIn;refine⟨a2,c2,by rw[qak],by rw[qak];exact O.le,RI0.ext' HF.ext (fun hne'=>?_),fun hne'=>?_⟩
      .have:=hRIn hne';rw[qab];omega
      .have:=hRIn hne';omega
def ovI(g:Gr)(x:Nat->Int)(v i q:Nat):Int:=if q<v then BD g x q else if q=v then Em g x i v else 0
structure LS2 where
 i:Nat
 a:Option Addr
 c:Nat
 f:List Value
 a2:Option Addr
 c2:Nat
 f2:List Value
end Go.Proofs.YtffclglpjlcojaaGreat
