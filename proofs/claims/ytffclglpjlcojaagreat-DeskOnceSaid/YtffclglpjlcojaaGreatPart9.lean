/- Part 9 of the proof. -/
import Derived.Test.YtffclglpjlcojaaGreatPart8
set_option maxRecDepth 20000
set_option maxHeartbeats 4000000
namespace Go.Proofs.YtffclglpjlcojaaGreat
open Go.GV Go.Proofs.Tryz
attribute [local irreducible] A7 W Wq Wt
def GM(x:Int):Value := .int .u64 x
structure FreshU(w w':World)(v:Value)(l:List Int):Prop where
 ex:∃a n c full,v=.slice a n c/\OS a n c 1 full (l.map GM)/\(∀x∈full,∃z,x=GM z)/\∀x∈ent a 23 full,w'.heap[x.1]?=some x.2/\w.heap.size<=x.1
 ext:Ext [] w w'
def YZ(bk:Nat):Value := .func (.func 128) #[] #[ptr bk]
theorem Akb{b:Nat}(w:World):Ret prog 92 #[.map (some b)] w fun v w'=>∃bk,v=YZ bk/\w'.heap[bk]?=some (Bl 130 [.map (some b)])/\w.heap.size<=bk/\Ext [] w w':=by
 obtain⟨w0,rfl,H⟩:=qE w;refine Au (fn:=f92) func92 U [.map (some b)] U (Ae (Bu _ (.map _) U U H ?_));rintro b1 w - H;refine Dd U .nilFunc U (qA (Ae (Cq [.pointer _] U (Dd U (.func _ _ _) U ?_))));refine qA (A5 (AB (v:=(.func _ _ _)) U U U ?_));exact⟨_,rfl,H.get at0,(H.own _ (qak ..)).elim (fun h=>by cases h) id,H.ext⟩
def appJ(w0:World)(bk b bb k:Nat)(o:Obj)(vis:List (Int × Value))(M:Mt)(w:World):Prop :=
 ∃a c full,(M=fun y=>y∈((bb,Bl 120 [.slice a vis.length c])::ent a 23 full).map (·.1))/\Ctx w0 [] w ((bb,Bl 120 [.slice a vis.length c])::ent a 23 full) /\
  OS a vis.length c 1 full (vis.map fun p=>GM p.1)/\(∀x∈full,∃z,x=GM z)/\DueK bk b o w/\∀y∈((bb,Bl 120 [.slice a vis.length c])::ent a 23 full).map (·.1),y≠k/\y≠k+1
theorem Aa1{bk b:Nat}{o:Obj}{m:List (Int × Value)}(hM:Df .u64 m o)(hm:m.length<=1000000)(w:World)(K:DueK bk b o w) :
  Ret prog 160 #[.slice none 0 0,YZ bk] w fun v w'=>∃vis:List (Int × Value),vis.Perm m/\FreshU w w' v (vis.map (·.1)):=by
 obtain⟨w0,rfl,H⟩:=qE w;have lk:=Bd K.h2;have lb:=Bd K.hb;refine Ii (fn:=f160) func160 U [.slice none 0 0,.func (.func 128) #[] #[.pointer (some ⟨bk,0,none⟩)]] U ?_;refine Ae (Bu _ (.slice _ _ _) U U H ?_);rintro b2 w - H;refine Am U (qA (Ax (Ae (C7 (.func _ _ _) U ?_))));refine qA (A1 ?_);obtain⟨ws,rfl⟩:=qD w;have hb2:=(H.own _ (qak ..)).elim (fun h=>by cases h) id;have l2:=H.lt at0;have hsz:=H.size;dsimp only at hb2;have K2:DueK bk b o ws:=⟨H.ext.to K.h2 (by simp),H.ext.to K.hb (by simp)⟩
 refine Ac4 (gf:=128) U qB (Afv (b2:=bk) (b:=b) hM) (by kernel_rfl) (by kernel_rfl) (fun vis v vis' h=>by obtain⟨p,-,rfl,-⟩:=h;rfl)
  (appJ w0 bk b b2 ws.heap.size o) (fun _=>False) (by simp) (fun _ _=>True.intro)
  (fun w2 hx2 _=>⟨_,none,0,[],rfl,H.call hx2,OS.nil,by simp,⟨hx2.to K2.h2 (by simp),hx2.to K2.hb (by simp)⟩,by simp[ent];omega⟩)
  (fun vis M w' w'' T hJ hT hx=>?_) (fun _ _ h _=>h) (fun vis M w' hJ=>?_) ?_ ?_ (fun _ h _=>h.elim)
 .obtain⟨a,c,full,hMM,HJ,O,Z,KJ,hne⟩:=hJ;refine⟨a,c,full,hMM,HJ.step hx (fun y hy hy2=>(hT _ hy2).1 (by rw[hMM];exact qa4 (f:=(·.1)) hy)) (fun x hx => .inr (by have:=(hT x hx).2;omega)),O,Z,⟨hx.to KJ.h2 (fun h=>by have:=(hT _ h).2;omega),hx.to KJ.hb (fun h=>by have:=(hT _ h).2;omega)⟩,hne⟩
 .obtain⟨a,c,full,hMM,HJ,O,Z,KJ,hne⟩:=hJ;refine⟨fun x hx=>?_,KJ⟩;rw[hMM]at hx;obtain⟨y,hy,rfl⟩:=qah.1 hx;exact⟨Bd (HJ.blk y hy),hne _ hx⟩
 .rintro vis v vis' M w ⟨p,rfl,rfl,hpm,hvl⟩ ⟨a,c,full,rfl,HJ,O,Z,KJ,hne⟩ hsz2;obtain⟨w1,rfl⟩:=qD w;refine A0 (Ad U (Ab ?_));refine⟨Ext.refl _ _,fun wB hxB=>?_⟩;have HB:=HJ.step hxB (fun y hy h=>(hne _ (qa4 (f:=(·.1)) hy)).2 (qab.1 h)) (fun z hz => .inr (by rw[qab.1 hz];omega));have KB:DueK bk b o wB:=⟨hxB.to KJ.h2 (by rw[qab];omega),hxB.to KJ.hb (by rw[qab];omega)⟩
  have hown:∀y∈((b2,Bl 120 [.slice a vis.length c])::ent a 23 full).map (·.1),w0.heap.size<=y:=fun y hy=>by
   obtain⟨z,hz,rfl⟩:=qah.1 hy;exact(HJ.own z hz).elim (fun h=>by cases h) id
  have hsB:=hxB.size;obtain⟨w2,rfl⟩:=qD wB;rw[<-qa0 ((b2,Bl 120 [.slice a vis.length c])::ent a 23 full)]at HB;have H:=Ctx.lend (L1:=(b2,Bl 120 [.slice a vis.length c])::ent a 23 full) (L2:=[]) HB;obtain⟨SS,hSS⟩:=qD (((b2,Bl 120 [.slice a vis.length c])::ent a 23 full).map (·.1));rw[<-hSS]at H;refine A1 (A0 (AG FS U H at0 U (Af U (Cp _ (.int _ _) Bh Bq Q2 U U U U H ?_))));rintro b10 w - H;refine Vc (L:=[_]) U Bh Bh Bq Y0 Q2 U U U H O U (by simp[AY]) ?_;rintro a' c' full' w H O Z2;refine Cb (.slice _ _ _) Aem U U U H at0 (by(simp;done)) ?_;rintro w H;refine Ab (A8 ?_);have hl:(vis++[p]).length=vis.length+1:=by rw[qat];rfl
  rw[hSS]at H;have HE:=H.ext;refine⟨_,⟨a',c',full',rfl,by rw[hl,<-qa0 (_::ent a' _ full')];exact Ctx.back HB H,by rw[hl,qav];exact O,fun x hx=>?_,⟨HE.to KB.h2 fun h=>by have:=hown _ h;omega,HE.to KB.hb fun h=>by have:=hown _ h;omega⟩,fun y hy=>?_⟩,fun y hy=>?_,_,HE,fun y hy => .inl hy⟩
  .rcases Z2 x hx with h|h|h
   .exact Z x h
   .exact⟨_,qab.1 h⟩
   .exact⟨_,qab.1 h⟩
  .rw[hl]at hy;obtain⟨z,hz,rfl⟩:=qah.1 hy
   rcases H.own z hz with h|h
   .exact hne _ h
   .omega
  .rw[hl]at hy;obtain⟨z,hz,rfl⟩:=qah.1 hy;exact(H.own z hz).imp id fun h=>by omega
 .rintro vis M w hp ⟨a,c,full,rfl,HJ,O,Z,KJ,hne⟩ hD;have H:=HJ;refine A8 (Aa (Ae (AG FS U H at0 U (Am U (qA (A5 (MJ (v:=(.slice _ _ _)) U U (Ij hD U fun wF hxF=>?_))))))));have HF:=H.step hxF (fun y hy h=>(hne _ (qa4 (f:=(·.1)) hy)).1 (qab.1 h)) (fun z hz => .inr (by rw[qab.1 hz];omega));refine⟨vis,hp,⟨a,vis.length,c,full,rfl,by rw[qcf];exact O,Z,fun x hx=>⟨HF.blk x (qaj _ hx),(HF.own x (qaj _ hx)).elim (fun h=>by cases h) id⟩⟩,HF.ext⟩
theorem XG{bk b:Nat}{o:Obj}{m:List (Int × Value)}(hM:Df .u64 m o)(hm:m.length<=1000000)(w:World)(K:DueK bk b o w) :
  Ret prog 126 #[YZ bk] w fun v w'=>∃vis:List (Int × Value),vis.Perm m/\FreshU w w' v (vis.map (·.1)):=by
 obtain⟨w0,rfl⟩:=qD w;refine Au (fn:=f126) func126 U [.func (.func 128) #[] #[.pointer (some ⟨bk,0,none⟩)]] U ?_;refine Ae (Am U (qA (Ae (C7 (.func _ _ _) U ?_))));refine Al qB (Aa1 hM hm _ K) U ?_;rintro v w ⟨vis,hp,F⟩;obtain⟨a,n,c,full,rfl,O,Z,hb⟩:=F.ex;refine Am U (qA (A5 (AB (v:=(.slice _ _ _)) U U U ?_)));exact⟨vis,hp,F⟩
theorem Afw{x y:Int}(h:GM x=GM y):x=y:=by unfold GM at h;injection h
theorem Za:∀(l:List Value),(∀x∈l,∃z,x=GM z)->∃zs:List Int,l=zs.map GM
 | [],_=>⟨[],rfl⟩
 |x::l,h=>by
  obtain⟨z,rfl⟩:=h x (qak ..);obtain⟨zs,rfl⟩:=Za l fun y hy=>h y (qaj _ hy);exact⟨z::zs,rfl⟩
theorem SJ:∀{l m:List Int},l.map GM=m.map GM->l=m
 | [],[],_=>rfl
 | [],_::_,h=>by cases h
 |_::_,[],h=>by cases h
 |x::l,y::m,h=>by
  simp only[qay,qdb]at h;rw[Afw h.1,SJ h.2]
theorem QJ(f:Nat->Int)(n:Nat):CP f n=(tab f n).map GM:=by unfold tab;rw[qcf];rfl
theorem VB(f:Nat->Int){n m:Nat}(h:n<=m):(tab f m).take n=tab f n:=by
 unfold tab;rw[<-List.map_take,List.take_range,qcg h]
theorem Aqi{g:Nat->Int}{n:Nat}(h:Kz g 0 n):(tab g n).Pairwise (·<=·):=by
 rw[qd5];intro i j hi hj hij;rw[Ds]at hi hj;have h1:=BW (f:=g) hi;have h2:=BW (f:=g) hj;rw[qbl (by rw[Ds];exact hi)]at h1;rw[qbl (by rw[Ds];exact hj)]at h2
 injection h1 with h1
 injection h2 with h2
 rw[h1,h2];exact h i j (qaq _) hij hj
theorem sortF{a:Option Addr}{n c:Nat}{full:List Value}{l:List Int}(w:World)(O:OS a n c 1 full (l.map GM))(Z:∀x∈full,∃z,x=GM z)(hb:∀x∈ent a 23 full,w.heap[x.1]?=some x.2)(hn:n<=1000000000) :
  Ret prog 127 #[.slice a n c] w fun v w'=>v=.tuple #[]/\∃(full':List Value) (l':List Int),l'.Perm l/\l'.Pairwise (·<=·)/\OS a n c 1 full' (l'.map GM)/\(∀x∈full',∃z,x=GM z)/\(∀x∈ent a 23 full',w'.heap[x.1]?=some x.2)/\Ext ((ent a 23 full).map (·.1)) w w':=by
 cases a with
 |none =>
  obtain rfl:n=0:=by have:=O.none' rfl;have:=O.le;omega
  have hl:l=[]:=by have:=O.llen;rw[qal]at this;exact qb0 (by omega)
  subst hl;refine Ret.mono (XE c w) ?_;rintro v w' ⟨rfl,rfl⟩;exact⟨rfl,full,[],List.Perm.refl _,.nil,O,Z,hb,Ext.refl _ _⟩
 |some p =>
  have hp:=O.zero p rfl;obtain⟨q,o,sp⟩:=p;simp only[Addr.mk.injEq,true_and]at hp;obtain⟨rfl,rfl⟩:=hp;obtain⟨zs,rfl⟩:=Za full Z;have hlen:=O.len;rw[qal,qdg]at hlen;have hpre:=O.pre;rw[qdg,<-List.map_take]at hpre;have hpre:=SJ hpre;have hzs:tab (fun i=>zs.getD i 0) c=zs:=by rw[<-hlen];exact Aqa zs
  have hb0:w.heap[q]?=some (Bl 23 (CP (fun i=>zs.getD i 0) c)):=by
   rw[QJ,hzs];exact hb (q,Bl 23 (zs.map GM)) (qab.2 U)
  refine Ret.mono (Afs (c:=c) hb0 O.le hn) ?_;rintro v w' ⟨rfl,g,hP,hS,H⟩;have hS0:((ent (some ⟨q,0,none⟩) 23 (zs.map GM)).map (·.1))=[q]:=by simp[ent]
  refine⟨rfl,CP g c,tab g n,?_,Aqi hS,⟨O.zero,O.none',by simp,O.le,?_⟩,fun x hx=>?_,fun x hx=>?_,by rw[hS0];exact H.ext⟩
  .rw[<-VB (fun i=>zs.getD i 0) O.le,hzs,hpre]at hP;exact hP
  .rw[qdg,QJ,<-List.map_take,VB g O.le]
  .rw[QJ,qah]at hx;obtain⟨z,_,rfl⟩:=hx;exact⟨z,rfl⟩
  .simp only[ent,qab]at hx;subst hx;exact H.get at0
theorem Aa2{bk b:Nat}{o:Obj}{m:List (Int × Value)}(hM:Df .u64 m o)(w:World)(K:DueK bk b o w)(hm:m.length<=1000000:=by omega):
  Ret prog 91 #[YZ bk] w fun v w'=>∃l:List Int,l.Perm (m.map (·.1))/\l.Pairwise (·<=·)/\FreshU w w' v l:=by
 obtain⟨w0,rfl⟩:=qD w;refine Au (fn:=f91) func91 U [.func (.func 128) #[] #[.pointer (some ⟨bk,0,none⟩)]] U ?_;refine Ae (Am U (qA (Ae (C7 (.func _ _ _) U ?_))));refine Al qB (XG hM hm _ K) U ?_;rintro v w ⟨vis,hp,F⟩;obtain⟨a,n,c,full,rfl,O,Z,hb⟩:=F.ex;have hx5:=F.ext;have hvn:=O.llen;have hvm:=hp.length_eq;rw[qal,qal]at hvn;refine Am U (qA (Ae (Ap U (Al qB (sortF _ O Z (fun x hx=>(hb x hx).1) (by omega)) U ?_))));rintro v w ⟨rfl,full',l',hP,hS,O',Z',hb',hx7⟩;refine qA (Ae (Ap U (Am U (qA (A5 (AB (v:=(.slice _ _ _)) U U U ?_))))));refine⟨l',hP.trans (hp.map _),hS,⟨_,_,_,_,rfl,O',Z',fun x hx=>⟨hb' x hx,?_⟩⟩,hx5.then hx7 fun x hx=>?_⟩
 .cases a with
  |none=>simp[ent]at hx
  |some p =>
   simp only[ent,qab]at hx;subst hx;exact(hb (p.block,Bl 23 full) (by simp[ent])).2
 .obtain⟨y,hy,rfl⟩:=qah.1 hx;exact .inr (hb y hy).2
structure Du where
 id:Int
 fr:Int
 to:Int
 am:Int
 we:Int
 un:Int
 held:Bool
instance:DecidableEq Du:=fun x y=>if h:x.id=y.id/\x.fr=y.fr/\x.to=y.to/\x.am=y.am/\x.we=y.we/\x.un=y.un/\x.held=y.held then isTrue (by cases x;cases y;simp_all)else isFalse fun e=>h (by subst e;exact⟨rfl,rfl,rfl,rfl,rfl,rfl,rfl⟩)
abbrev Dn(d:Du):List Value:=[.int .u64 d.id,.int .i64 d.fr,.int .i64 d.to,.int .i64 d.am,.int .i64 d.we,.int .i64 d.un,.bool d.held]
abbrev GG(d:Du):Value := .agg #[.int .u64 d.id,.int .i64 d.fr,.int .i64 d.to,.int .i64 d.am,.int .i64 d.we,.int .i64 d.un,.bool d.held]
theorem Dx(d:Du):∀v∈Dn d,AY v=true:=by simp[Dn,AY]
def dm(ds:List Du):List (Int × Value):=ds.map fun d=>(d.id,GG d)
theorem Aqj{ds:List Du}{p:Int × Value}(h:p∈dm ds):∃d∈ds,p=(d.id,GG d):=by
 obtain⟨d,hd,rfl⟩:=qah.1 h;exact⟨d,hd,rfl⟩
def amV(p:Int × Value):Int:=match p.2 with
 | .agg vs=>match vs.toList with | [_,_,_,.int _ x,_,_,_]=>x|_=>0
 |_=>0
theorem Aqk(ds:List Du):(dm ds).map amV=ds.map (·.am):=by unfold dm;rw[qcf];rfl
abbrev DU(b:Nat)(nx:Int):List Value:=[.map (some b),.int .u64 nx]
structure VSt where
 vis:List (Int × Value)
 it:Obj
 a:Option Addr
 c:Nat
 full:List Value
theorem QK{bd b:Nat}{nx:Int}{o:Obj}{ds:List Du}(w:World)(hd:w.heap[bd]?=some (Bl 132 (DU b nx)))(hb:w.heap[b]?=some o)(hM:Df .u64 (dm ds) o)(hn:ds.length<=1000000:=by omega):
  Ret prog 100 #[ptr bd] w fun v w'=>∃l:List Int,l.Perm (ds.map (·.am))/\Fresh w w' 2 1 v (l.map Eb):=by
 obtain⟨w0,rfl,H⟩:=qE w;have hdl:(dm ds).length=ds.length:=by unfold dm;rw[qal]
 refine Au (fn:=f100) func100 U [.pointer (some ⟨bd,0,none⟩)] U ?_;refine Ae (Am U (qA (Ae (Am U (qA (Ax (Ae (A4 U (A9 U ?_)))))))));refine Ah El U (Bb F3 U ((by rw[Aj hd];rfl)) ?_);refine UX U FT U H hb hM ?_;rintro bi it w hV H;refine qA (A1 (Bw 1046568 (α:=VSt) (fun t=>[(3,.slice t.a t.vis.length t.c)]) (fun t w'=>VisO .u64 b (dm ds) t.vis o t.it/\OS t.a t.vis.length t.c 1 t.full ((t.vis.map amV).map Eb)/\Ctx w0 [] w' ((bi,t.it)::ent t.a 2 t.full)) (fun t=>(dm ds).length - t.vis.length) ⟨[],it,none,0,[]⟩ U ?_ ?_ ?_))
 .exact⟨rfl,trivial⟩
 .exact⟨hV,OS.nil,H⟩
 .rintro⟨vis,it,a,c,full⟩ j w ⟨hV,O,H⟩;dsimp only at hV O H;dsimp only;refine Ae (Yu U (fun _=>rfl) U H (H.ext.to hb (by simp)) at0 hV ?_);rintro vs more it' w hc H1;clear H;have H:Ctx w0 [] w ((bi,it')::ent a 2 full):=H1;clear H1
  skip
  refine qA (Ax (Aw _ U ?_ ?_))
  .intro h1;obtain⟨p,hV'⟩:∃p,VisO .u64 b (dm ds) (vis++[p]) o it':=hc.elim (fun h=>by rw[h.1]at h1;cases h1) fun h=>h.2;obtain⟨d,hd2,rfl⟩:=Aqj (hV'.mem p (by simp));have hle:=hV'.le;rw[hdl]at hle;have hl1:(vis++[(d.id,GG d)]).length=vis.length+1:=by rw[qat];rfl
   rw[hl1]at hle;refine Ay (Aa (A1 (Ae (ZX U U H (H.ext.to hb (by simp)) at0 hV' ?_))));refine AH U U (Bc DX H ?_);rintro b5 w - H;refine Bn BV U U U (by exact Dx _) H at0 U ?_;rintro w H;refine qA (A0 (Ap U (Ah ER U (AG B4 U H at0 U (Cp _ (.int _ _) Bf BD Fh U U U U H ?_)))));rintro b18 w - H;refine Cy (L:=[_,_]) Bf Bf BD Mn Fh U U U H O U (by simp[AY]) ?_;rintro a' c' full' w H O;refine Am U (Ab (A8 (Aa ?_)));exact⟨⟨vis++[(d.id,GG d)],it',a',c',full'⟩,rfl,⟨by dsimp only;rw[hl1];rfl,trivial⟩,⟨hV',by dsimp only;rw[hl1,qav,qav];exact O,H.tail⟩,by dsimp only;rw[hl1,hdl];omega⟩
  .intro h1;obtain⟨hp,rfl⟩:vis.Perm (dm ds)/\it'=it:=hc.elim (fun h=>h.2) fun h=>by rw[h.1]at h1;cases h1
   refine Bt (An (An (AK (Aa (Ae (Ap U (Am U (qA (A5 (AB (v:=(.slice _ _ _)) U U U ?_))))))))));refine⟨vis.map amV,?_,Ctx.fresh (L:=[_]) H O⟩;rw[<-Aqk];exact hp.map _
def d00:Du:=⟨0,0,0,0,0,0,false⟩
def Ko(ds:List Du)(k:Int):Du:=(ds.find? fun d=>d.id == k).getD d00
theorem NS{d:Du}:∀{ds:List Du},(ds.map (·.id)).Nodup->d∈ds->Ko ds d.id=d
 |x::ds,hn,h=>by
  simp only[qay,qen]at hn;unfold Ko
  by_cases e:x.id=d.id
  .rcases qai.1 h with rfl|h
   .simp
   .exact absurd (qa4 (f:=(·.id)) h) (by rw[<-e];exact hn.1)
  .rcases qai.1 h with rfl|h
   .exact absurd U e
   .have:=NS hn.2 h;unfold Ko at this;rw[qb7,show(x.id == d.id)=false by simpa using e];exact this
theorem Afx{ds:List Du}(hn:(ds.map (·.id)).Nodup):(ds.map (·.id)).map (Ko ds)=ds:=by
 rw[qcf];have:ds.map (Ko ds ∘ (·.id))=ds.map id:=qbo fun d hd=>NS hn hd;rw[this,List.map_id]
theorem Zb{d:Du}:∀{ds:List Du},(ds.map (·.id)).Nodup->d∈ds->Ea (dm ds) d.id=some (GG d)
 |x::ds,hn,h=>by
  simp only[qay,qen]at hn;unfold dm Ea;rw[qay,qb7]
  by_cases e:x.id=d.id
  .rcases qai.1 h with rfl|h
   .simp
   .exact absurd (qa4 (f:=(·.id)) h) (by rw[<-e];exact hn.1)
  .rcases qai.1 h with rfl|h
   .exact absurd U e
   .have:=Zb hn.2 h;unfold dm Ea at this;rw[show(x.id == d.id)=false by simpa using e];exact this
def Afy(ds' ds:List Du):Prop:=ds'.Perm ds/\(ds'.map (·.id)).Pairwise (·<·)
theorem Aa3{ds:List Du}{l:List Int}(hn:(ds.map (·.id)).Nodup)(hp:l.Perm ((dm ds).map (·.1)))(hs:l.Pairwise (·<=·)):Afy (l.map (Ko ds)) ds/\(l.map (Ko ds)).map (·.id)=l:=by
 have h1:(dm ds).map (·.1)=ds.map (·.id):=by unfold dm;rw[qcf];rfl
 rw[h1]at hp
 have h2:(l.map (Ko ds)).map (·.id)=l:=by
  rw[qcf]
  have:l.map ((·.id) ∘ Ko ds)=l.map id:=qbo fun k hk=>by
   obtain⟨d,hd,rfl⟩:=qah.1 (hp.mem_iff.1 hk);show(Ko ds d.id).id=d.id;rw[NS hn hd]
  rw[this,List.map_id]
 refine⟨⟨?_,?_⟩,h2⟩
 .have:=hp.map (Ko ds)
  rwa [Afx hn]at this
 .rw[h2];have hnd:=hp.nodup_iff.2 hn;exact(hs.and (List.nodup_iff_pairwise_ne.1 hnd)).imp fun h=>by omega
theorem Aa4{ds:List Du}{i:Nat}{d:Du}(h:ds[i]?=some d):(ds.take (i+1)).flatMap Dn=(ds.take i).flatMap Dn++Dn d:=by
 rw[qb6,h,qbt];simp
theorem Nh{bd b:Nat}{nx:Int}{o:Obj}{ds:List Du}(w:World)(hd:w.heap[bd]?=some (Bl 132 (DU b nx)))(hb:w.heap[b]?=some o)(hM:Df .u64 (dm ds) o)(hnd:(ds.map (·.id)).Nodup)(hn:ds.length<=1000000:=by omega):
  Ret prog 47 #[ptr bd] w fun v w'=>∃ds':List Du,Afy ds' ds/\Fresh w w' 118 7 v (ds'.flatMap Dn):=by
 obtain⟨w0,rfl,H⟩:=qE w;have hdl:(dm ds).length=ds.length:=by unfold dm;rw[qal]
 refine Au (fn:=f47) func47 U [.pointer (some ⟨bd,0,none⟩)] U ?_;refine Ae (Am U (qA (Ax (Ae (A4 U (Cw LV U ?_))))));refine qA (Aw _ U ?_ ?_)
 .intro h0;cases h0
 .intro h0;refine Ay (Aa (Ae (Am U (qA (Ax (Ae (A4 U (A9 U (Ah El U (Bb F3 U ((by rw[Aj hd];rfl)) ?_))))))))));refine Al qB (Akb (b:=b) _) U ?_;rintro v w ⟨bk,rfl,hbk,-,hx12⟩;replace H:=H.call hx12;refine Al qB (Aa2 hM _ ⟨hbk,H.ext.to hb (by simp)⟩) U ?_;rintro v w ⟨l,hlp,hls,F⟩;obtain⟨ak,nk,ck,fk,rfl,OK,ZK,hbl⟩:=F.ex;replace H:=H.call F.ext;refine Be Bh U (Af U (qA (A1 ?_)));obtain⟨w1,rfl⟩:=qD w;have H0:=H.ext;replace H:=Ctx.start w1 [];have R:Rd w1 ak 1 (fun x=>[GM x]) l:=OK.rd1 fun x hx=>(hbl x hx).1;have hd1:=H0.to hd (by simp);have hb1:=H0.to hb (by simp);obtain⟨hSD,hid⟩:=Aa3 hnd hlp hls;obtain⟨ds',hds'⟩:∃ds',ds'=l.map (Ko ds):=⟨_,rfl⟩;rw[<-hds']at hSD hid;have hlen:ds'.length=l.length:=by rw[hds',qal]
  have hll:l.length=nk:=by have:=OK.llen;rw[qal]at this;omega
  have hle:l.length=ds.length:=by have:=hlp.length_eq;rw[qal]at this;omega
  subst hll;refine Bw 536838184 (α:=LSt) (fun t=>[(3,.slice t.a t.i t.c),(15,.int .i64 (t.i:Int))]) (fun t w'=>t.i<=l.length/\OS t.a t.i t.c 7 t.full ((ds'.take t.i).flatMap Dn)/\Ctx w1 [] w' (ent t.a 118 t.full)) (fun t=>l.length - t.i) ⟨0,none,0,[]⟩ U ?_ ?_ ?_
  .exact⟨rfl,rfl,trivial⟩
  .exact⟨qaq _,OS.nil,H⟩
  .rintro⟨i,a,c,full⟩ j w ⟨hi,O,H⟩;dsimp only at hi O H;dsimp only;refine Ae (Bm U U (qA (Ax (Aw _ U ?_ ?_))))
   .intro h1;replace h1:=AM h1;obtain⟨k,hk⟩:=AE (l:=l) (i:=i);obtain⟨d,hdi⟩:=AE (l:=ds') (i:=i)
    have hkd:k=d.id:=by
     have h7:(ds'.map (·.id))[i]?=some d.id:=by rw[qa1,hdi];rfl
     rw[hid,hk]at h7;injection h7
    subst hkd;have hmg:=Zb hnd (hSD.1.mem_iff.1 (qac hdi));refine Ay (Aa (Ax (A1 (Ae (Bg R Bh Bq U U (by rfl) ?_)))));refine Bb B6 U (((R.ext0 H.ext).fld hk U (j:=0) U)) (Ad U (qA (A0 (Ap U (A4 U (A9 U (Ah El U (Bb F3 U ((H.old0 (by rw[Aj hd1];rfl))) ?_))))))));refine Af U (WW U FT Dc Mp U U (H.ext.to hb1 (by simp)) hM ?_);rw[hmg];rw[qef];refine Cp _ (.agg _) D9 BV DX U U U U H ?_;rintro b26 w - H;refine Cy (L:=[]) D9 D9 BV Xi DX U U U H O U (by simp[AY]) ?_;rintro a' c' full' w H O;refine Am U (Ab (A8 (Aa (A0 (Az U U ?_)))));refine Af U (qA ?_);exact⟨⟨i+1,a',c',full'⟩,rfl,⟨rfl,rfl,trivial⟩,⟨by dsimp only;omega,by dsimp only;rw[Aa4 hdi];exact O,H⟩,by dsimp only;omega⟩
   .intro h1;replace h1:=AN h1;refine Bt (An (An (AK (Aa (Ae (Ap U (Am U (qA (A5 (AB (v:=(.slice _ _ _)) U U U ?_))))))))));obtain rfl:i=l.length:=by omega
    have FF:=Ctx.fresh (L:=[]) H O;rw[show ds'.take l.length=ds' by rw[<-hlen,qbm]]at FF;obtain⟨⟨a2,n2,c2,f2,e1,e2,e3⟩,e4⟩:=FF;exact⟨ds',hSD,⟨a2,n2,c2,f2,e1,e2,fun x hx=>⟨(e3 x hx).1,qa6 H0.size (e3 x hx).2⟩⟩,H0.trans e4⟩
def SK(x:Int):Bool:=decide (0<=x) && decide (x<16)
theorem VC(x:Int)(w:World):Ret prog 138 #[.int .i64 x] w fun v w'=>v=.bool (SK x)/\w=w':=by
 obtain⟨w0,rfl⟩:=qD w;refine Au (fn:=f138) func138 U [.int .i64 x] U (Ae (Ai U (qA (Ae (Af U (CM U U (A2 U (AR 5 U ?_ ?_))))))))
 .intro h1;replace h1:=AM h1;refine Af U (Bm U U (AA U (.bool _) U (Ai U (qA (A5 (AB (v:=(.bool _)) U U U ?_))))));exact⟨qaa Value.bool (by unfold SK;rw[qad];simp_all;try omega),rfl⟩
 .intro h2;replace h2:=AN h2;refine Ag U (Ag U (AJ U (.bool _) U (Ai U (qA (A5 (AB (v:=(.bool _)) U U U ?_))))));exact⟨qaa Value.bool (by unfold SK;rw[qad];simp_all;try omega),rfl⟩
def E7(d:Du):Bool:=(SK d.fr && (SK d.to && !decide (d.fr=d.to))) && (decide (1<=d.am) && (Dp d.am && (decide (1<=d.we) && (decide (d.we<=1000) && decide (0<=d.un)))))
theorem Zc(d:Du)(w:World):Ret prog 99 #[GG d] w fun v w'=>v=.bool (E7 d)/\Ext [] w w':=by
 obtain⟨w0,rfl,H⟩:=qE w;refine Au (fn:=f99) func99 U [GG d] U (Ae (Bu (Dn d) (.agg _) U U H ?_));rintro b1 w - H;refine Ai U (qA (Ax (A1 (Ax (Ae (Ah It U (AG Cc U H at0 U (Al qB (VC d.fr _) U ?_))))))));rintro v w ⟨rfl,rfl⟩;refine BP U (Ai U (qA (Dj 3 U ?_ ?_)))
 .intro h1;replace h1:=BM h1;refine Ay (Aa (DB U (Ae (Ai U (qA (A5 (AF (Av (AB (v:=(.bool _)) U U U ?_)))))))));exact⟨qaa Value.bool (by unfold E7;rw[qad];simp_all;try omega),H.ext⟩
 .intro h2;replace h2:=BN h2;refine Ae (Ah Iu U (AG Cc U H at0 U (Al qB (VC d.to _) U ?_)));rintro v w ⟨rfl,rfl⟩;refine BP U (Ai U (qA (Dj 3 U ?_ ?_)))
  .intro h3;replace h3:=BM h3;refine Ay (Aa (DB U (Ae (Ai U (qA (A5 (AF (Av (AB (v:=(.bool _)) U U U ?_)))))))));exact⟨qaa Value.bool (by unfold E7;rw[qad];simp_all;try omega),H.ext⟩
  .intro h4;replace h4:=BN h4;refine A0 (Ah It U (AG Cc U H at0 U (Ah Iu U (AG Cc U H at0 U (C3 U U (Ai U (qA (Dj 3 U ?_ ?_))))))))
   .intro h5;replace h5:=AM h5;refine Ae (Ai U (qA (A5 (AF (Av (AB (v:=(.bool _)) U U U ?_))))));exact⟨qaa Value.bool (by unfold E7;rw[qad];simp_all;try omega),H.ext⟩
   .intro h6;replace h6:=AN h6;refine Ax (Ae (Ah ER U (AG B4 U H at0 U (Bm U U (Ai U (qA (Dj 17 U ?_ ?_)))))))
    .intro h7;replace h7:=AM h7;refine Ay (Aa (DB U (Ae (Ai U (qA (A5 (AF (Av (AB (v:=(.bool _)) U U U ?_)))))))));exact⟨qaa Value.bool (by unfold E7;rw[qad];simp_all;try omega),H.ext⟩
    .intro h8;replace h8:=AN h8;refine Ae (Ah ER U (AG B4 U H at0 U (Al qB (Mw d.am _) U ?_)));rintro v w ⟨rfl,rfl⟩;refine BP U (Ai U (qA (Dj 17 U ?_ ?_)))
     .intro h9;replace h9:=BM h9;refine Ay (Aa (DB U (Ae (Ai U (qA (A5 (AF (Av (AB (v:=(.bool _)) U U U ?_)))))))));exact⟨qaa Value.bool (by unfold E7;rw[qad];simp_all;try omega),H.ext⟩
     .intro h10;replace h10:=BN h10;refine Ae (Ah KN U (AG B4 U H at0 U (Bm U U (Ai U (qA (Dj 17 U ?_ ?_))))))
      .intro h11;replace h11:=AM h11;refine Ay (Aa (DB U (Ae (Ai U (qA (A5 (AF (Av (AB (v:=(.bool _)) U U U ?_)))))))));exact⟨qaa Value.bool (by unfold E7;rw[qad];simp_all;try omega),H.ext⟩
      .intro h12;replace h12:=AN h12;refine Ae (Ah KN U (AG B4 U H at0 U (C8 U U (Ai U (qA (Dj 17 U ?_ ?_))))))
       .intro h13;replace h13:=AM h13;refine Ay (Aa (DB U (Ae (Ai U (qA (A5 (AF (Av (AB (v:=(.bool _)) U U U ?_)))))))));exact⟨qaa Value.bool (by unfold E7;rw[qad];simp_all;try omega),H.ext⟩
       .intro h14;replace h14:=AN h14;refine A0 (Ah Qt U (AG B4 U H at0 U (Bm U U (Ai U (qA (Dj 17 U ?_ ?_))))))
        .intro h15;replace h15:=AM h15;refine Ae (Ai U (qA (A5 (AF (Av (AB (v:=(.bool _)) U U U ?_))))));exact⟨qaa Value.bool (by unfold E7;rw[qad];simp_all;try omega),H.ext⟩
        .intro h16;replace h16:=AN h16;refine Ay (A8 (Aa (Ae (Ai U (qA (A5 (AB (v:=(.bool _)) U U U ?_)))))));exact⟨qaa Value.bool (by unfold E7;rw[qad];simp_all;try omega),H.ext⟩
def Gf(nx:Int):Int->List Du->Bool
 |_,[]=>true
 |ah,d::ds=>(E7 d && (decide (ah<d.id) && decide (d.id<nx))) && Gf nx d.id ds
def Ll(ah:Int):List Du->Int
 | []=>ah
 |d::ds=>Ll d.id ds
theorem Ln(nx:Int):∀(ah:Int) (ds es:List Du),Gf nx ah (ds++es)=(Gf nx ah ds && Gf nx (Ll ah ds) es)
 |_,[],_=>rfl
 |ah,d::ds,es=>by simp only[qck,Gf,Ll,Ln nx d.id ds es,qd3]
theorem RL(ah:Int)(ds:List Du)(d:Du):Ll ah (ds++[d])=d.id:=by
 induction ds generalizing ah with
 |nil=>rfl
 |cons x ds ih=>exact ih x.id
theorem Kc{nx:Int}:∀{ah:Int} {ds:List Du},Gf nx ah ds=true->(∀d∈ds,ah<d.id/\d.id<=Ll ah ds/\d.id<nx/\E7 d=true)/\(ds.map (·.id)).Pairwise (·<·)/\ah<=Ll ah ds
 |_,[],_=>⟨fun _ h=>(by cases h),List.Pairwise.nil,qa3 _⟩
 |ah,x::ds,h=>by
  simp only[Gf,qae,qar]at h;obtain⟨⟨hm,h1,h2⟩,h3⟩:=h;obtain⟨i1,i2,i3⟩:=Kc h3;refine⟨fun d hd=>?_,?_,?_⟩
  .rcases qai.1 hd with rfl|hd
   .exact⟨h1,i3,h2,hm⟩
   .obtain⟨a,b,c,e⟩:=i1 d hd;exact⟨by omega,b,c,e⟩
  .rw[qay,qbx];refine⟨fun k hk=>?_,i2⟩;obtain⟨d,hd,rfl⟩:=qah.1 hk;exact(i1 d hd).1
  .show ah<=Ll x.id ds;omega
def ofC(ds:List Du)(nx:Int):Int :=
 if 64<ds.length then 6 else if(decide (1<=nx) && decide (nx<=4611686018427387904))=false then 1 else if Gf nx 0 ds=false then 1 else(Fl (ds.map (·.am))).2
theorem SM{xs ys:List Int}(h:xs.Perm ys):Fl xs=Fl ys:=by
 have h1:xs.all Dp=ys.all Dp:=by
  rw[qad,qaw,qaw];exact⟨fun g x hx=>g x (h.mem_iff.2 hx),fun g x hx=>g x (h.mem_iff.1 hx)⟩
 unfold Fl;rw[h1,Aaz h]
theorem SN{ds:List Du}{k:Int}(h:∀d∈ds,d.id≠k):Ea (dm ds) k=none:=by
 induction ds with
 |nil=>rfl
 |cons x ds ih =>
  unfold dm Ea at ih |-;rw[qay,qb7,show(x.id == k)=false by simpa using h x (qak ..)];exact ih fun d hd=>h d (qaj _ hd)
theorem Afz(ds:List Du)(d:Du):dm ds++[(d.id,GG d)]=dm (ds++[d]):=by unfold dm;rw[qav];rfl
theorem Af0{w:World}{b:Nat}{t:TypeId}{l:List Value}(h:w.heap[b]?=some (Bl t l)):∀j v,l[j]?=some v->w.cell? ⟨b,0+j,none⟩=some v:=fun j v hv=>by rw[Aj h,qaz];exact hv
structure OSt where
 i:Nat
 ah:Int
 o:Obj
theorem Aql(a:Option Addr)(n c:Nat)(ds:List Du)(nx:Int)(w:World)(R:Rd w a 7 Dn ds)(hn:ds.length=n)(hid:∀d∈ds,0<=d.id/\d.id<18446744073709551616)(hn2:n<=1000000000:=by omega)(_:0<=nx/\nx<18446744073709551616:=by omega):
  Ret prog 67 #[.slice a n c,.int .u64 nx] w fun v w'=>∃p,v=.tuple #[p,.int .i64 (ofC ds nx)]/\(ofC ds nx≠0->p=.pointer none)/\(ofC ds nx=0->∃bd b o,p=ptr bd/\w'.heap[bd]?=some (Bl 132 (DU b nx))/\w'.heap[b]?=some o/\Df .u64 (dm ds) o/\w.heap.size<=bd/\w.heap.size<=b/\bd≠b)/\Ext [] w w':=by
 subst hn;obtain⟨w0,rfl,H⟩:=qE w;refine Au (fn:=f67) func67 U [.slice a ds.length c,.int .u64 nx] U (Ae (Cn U (Ad U (qA (Ax (Ae (Ap U (Be D9 U (C8 U U (qA ?_))))))))));refine Aw _ U ?_ ?_
 .intro h1;replace h1:=AM h1;refine Ae (Cn U (Ad U (qA (A5 (Av (Cf (v1:=(.pointer _)) (v2:=(.int _ _)) U U U U ?_))))));have h1':ofC ds nx=6:=by unfold ofC;rw[if_pos (by omega)]
  exact⟨_,by rw[h1'],fun _=>rfl,(fun h=>by omega),H.ext⟩
 .intro h1;replace h1:=AN h1;have h1':¬64<ds.length:=by omega
  refine Ay (Aa (Ax (Ae (Ci (α:=Unit) 2064384 (fun _=>[(20,.bool (!(decide (1<=nx) && decide (nx<=4611686018427387904))))]) (fun _ w'=>w'=w0) U ?_ ?_))))
  .refine Af U (Bm U U (A2 U (AR 17 U ?_ ?_)))
   .intro h1;replace h1:=AM h1;refine Ag U (Ag U (AA U (.bool _) U (Ab ?_)));exact⟨rfl,(),rfl,⟨qaa Value.bool (by rw[qad];simp_all;try omega),trivial⟩,rfl⟩
   .intro h2;replace h2:=AN h2;refine Af U (C8 U U (AJ U (.bool _) U (Ab ?_)));exact⟨rfl,(),rfl,⟨qaa Value.bool (by rw[qad];simp_all;try omega),trivial⟩,rfl⟩
  rintro - j20 w hw;subst w;refine Aw _ U ?_ ?_
  .intro h2;replace h2:=BM h2;refine Ae (Cn U (Ad U (qA (A5 (Av (Cf (v1:=(.pointer _)) (v2:=(.int _ _)) U U U U ?_))))));have h2':ofC ds nx=1:=by unfold ofC;rw[if_neg h1',if_pos (by simpa using h2)]
   exact⟨_,by rw[h2'],fun _=>rfl,(fun h=>by omega),H.ext⟩
  .intro h2;replace h2:=BN h2;have h2':(decide (1<=nx) && decide (nx<=4611686018427387904))=true:=by simpa using h2
   have h2n:¬(decide (1<=nx) && decide (nx<=4611686018427387904))=false:=by rw[h2'];decide
   refine Ay (Aa (Ae (Mi .u64 U H ?_)));rintro b o w hM H;refine Af U (BA (DU b nx) Aej Aep ?_);refine Bu (DU b nx) (.agg _) U U H ?_;rintro b24 w - H;refine Cn U (qA (Ae (Ad U (qA (Ax (Ae (Ap U (Be D9 U (Af U ?_)))))))));refine qA (A1 (Bw 288230376017494704 (α:=OSt) (fun t=>[(7,.int .u64 t.ah),(27,.int .i64 (t.i:Int))]) (fun t w'=>t.i<=ds.length/\t.ah=Ll 0 (ds.take t.i)/\Gf nx 0 (ds.take t.i)=true/\Df .u64 (dm (ds.take t.i)) t.o/\Ctx w0 [] w' [(b24,Bl 132 (DU b nx)),(b,t.o)]) (fun t=>ds.length - t.i) ⟨0,0,o⟩ U ?_ ?_ ?_))
   .exact⟨rfl,rfl,trivial⟩
   .exact⟨qaq _,rfl,rfl,hM,H⟩
   .rintro⟨i,ah,o⟩ j w ⟨hi,hah,has,hM,H⟩;dsimp only at hi hah has hM H;dsimp only;refine Ae (Bm U U (qA (Ax (Aw _ U ?_ ?_))))
    .intro h3;replace h3:=AM h3;obtain⟨d,hd⟩:=AE (l:=ds) (i:=i);have hdi:=hid d (qac hd);have htk:ds.take (i+1)=ds.take i++[d]:=by rw[qb6,hd];rfl
     have hasc:Gf nx 0 (ds.take (i+1))=(E7 d && (decide (ah<d.id) && decide (d.id<nx))):=by
      rw[htk,Ln,has,qcl,<-hah];show(_ && Gf nx d.id [])=_;show(_ && true)=_;rw[qdu]
     refine Ay (Aa (Ax (A1 (Ae (Bg R D9 BV U U (by rfl) ?_)))));refine C9 _ E4 BV U U ((R.ext0 H.ext).row hd U) (Bc DX H ?_);rintro b9 w - H;refine Bn BV U U U (by exact Dx _) H at0 U ?_;rintro w H;refine qA (Ax (Ae (Ci (α:=Unit) 70366596694016 (fun _=>[(45,.bool (!(E7 d && (decide (ah<d.id) && decide (d.id<nx)))))]) (fun _ w'=>Ctx w0 [] w' [(b9,Bl 118 (Dn d)),(b24,Bl 132 (DU b nx)),(b,o)]) U ?_ ?_)))
     .refine Cg E4 BV U H at0 U (Al qB (Zc d _) U ?_);rintro v w ⟨rfl,hx32⟩;replace H:=H.call hx32;refine BP U (A2 U (AR 34 U ?_ ?_))
      .intro h3;replace h3:=BM h3;refine Ag U (Ag U (Ag U (Ag U (AA U (.bool _) U (A2 U (Ag U (Ag U (Ag U (Ag U ?_)))))))));refine AA U (.bool _) U (Ab ?_);exact⟨rfl,(),rfl,⟨qaa Value.bool (by clear hasc;rw[qad];simp_all;try omega),trivial⟩,H⟩
      .intro h4;replace h4:=BN h4;refine Ah FX U (AG B6 U H at0 U (Af U (N7 U U U (AJ U (.bool _) U (A2 U (AR 40 U ?_ ?_))))))
       .intro h5;replace h5:=AM h5;refine Ag U (Ag U (Ag U (Ag U (AA U (.bool _) U (Ab ?_)))));exact⟨rfl,(),rfl,⟨qaa Value.bool (by clear hasc;rw[qad];simp_all;try omega),trivial⟩,H⟩
       .intro h6;replace h6:=AN h6;refine Ah FX U (AG B6 U H at0 U (Af U (CM U U (AJ U (.bool _) U (Ab ?_)))));exact⟨rfl,(),rfl,⟨qaa Value.bool (by clear hasc;rw[qad];simp_all;try omega),trivial⟩,H⟩
     rintro - j45 w H;refine Aw _ U ?_ ?_
     .intro h4;replace h4:=BM h4;refine Ae (Cn U (Ad U (qA (A5 (Av (AF (Av (Av (AF (Av (Cf (v1:=(.pointer _)) (v2:=(.int _ _)) U U U U ?_)))))))))))
      have h4':ofC ds nx=1:=by
       unfold ofC;rw[if_neg h1',if_neg h2n,if_pos];have h5:Gf nx 0 ds=Gf nx 0 (ds.take (i+1)++ds.drop (i+1)):=by rw[qbq]
       rw[h5,Ln,hasc,show(E7 d && (decide (ah<d.id) && decide (d.id<nx)))=false by simpa using h4];rfl
      exact⟨_,by rw[h4'],fun _=>rfl,(fun h=>by omega),H.ext⟩
     .intro h4;replace h4:=BN h4;have h4':(E7 d && (decide (ah<d.id) && decide (d.id<nx)))=true:=by simpa using h4
      have hgt:ah<d.id:=by simp only[qae,qar]at h4';exact h4'.2.1
      have hno:Ea (dm (ds.take i)) d.id=none:=SN fun x hx=>by
       have:=((Kc has).1 x hx).2.1;omega
      refine Ay (Aa (Ft [([0,1,2,3,4,5,6,7,8],9),([10],11),([],12)] (fun z=>z.heap[b9]?=some (Bl 118 (Dn d))/\z.heap[b24]?=some (Bl 132 (DU b nx))) [] Br (⟨H.drew.get at0,H.drew.get at1⟩) ?_));refine AD U U (BG U (Ba U (Ao El U (B0 F3 U (fun _ hx=>(by rw[Aj hx.2];rfl)) ?_))));refine Ao FX U (B0 B6 U (fun _ hx=>(by rw[Aj hx.1];rfl)) ?_);refine G9 _ E4 BV U U (fun _ hx=>(Af0 hx.1)) (Ao FX U (B0 B6 U (fun _ hx=>(by rw[Aj hx.1];rfl)) ?_));refine AU ?_;replace H:=H.drew;refine UZ U FT Dc Mp U U H at2 hM hno ?_;rintro st o1 w hE H;refine Ab (BH (⟨H.get at0,H.get at1⟩) (AD U U ?_));refine Bs U U (AU (R6 (GG d) U U U U H at2 hE ?_));rintro o2 w hM2 H;refine Ab (BH (⟨H.get at0,H.get at1⟩) (AD U U ?_));refine AU (Ad U (Ab (BH (⟨H.get at0,H.get at1⟩) (BF (A8 (Aa (A0 (Az U U ?_))))))));refine Af U (qA ?_)
      exact⟨⟨i+1,d.id,o2⟩,rfl,⟨rfl,rfl,trivial⟩,⟨by dsimp only;omega,by dsimp only;rw[htk,RL],by dsimp only;rw[hasc];exact h4',by dsimp only;rw[htk,<-Afz];exact hM2,H.tail⟩,by dsimp only;omega⟩
    .intro h3;replace h3:=AN h3;obtain rfl:i=ds.length:=by omega
     rw[qbm]at hM has
     have hC:ofC ds nx=(Fl (ds.map (·.am))).2:=by
      unfold ofC;rw[if_neg h1',if_neg h2n,if_neg (by rw[has];decide)]
     rw[hC];obtain⟨tt,htt⟩:=qD (Fl (ds.map (·.am)));rw[<-htt];refine Bt (An (An (AK (Aa (Ax (Ae (A4 U (Al qB (QK _ (H.get at0) (H.get at1) hM) U ?_))))))));rintro v w ⟨l,hlp,F⟩;obtain⟨a3,n3,c3,f3,rfl,O3,hb3⟩:=F.ex;replace H:=H.call F.ext;have hl3:=O3.llen;rw[qal]at hl3;have hlq:=hlp.length_eq;rw[qal]at hlq;refine Al qB (Ng a3 n3 c3 l _ (O3.rd1 fun x hx=>(hb3 x hx).1) (by omega)) U ?_;rintro v w ⟨rfl,rfl⟩;rw[SM hlp];rw[<-htt];refine Cr U (AH U U (AH U U (Ad U (Ad U (qA (Ae (Af U (CK U U (qA ?_)))))))));refine Aw _ U ?_ ?_
     .intro h5;replace h5:=CY h5;refine Ae (Af U (Cn U (Ad U (qA (A5 (Av (Cf (v1:=(.pointer _)) (v2:=(.int _ _)) U U U U ?_)))))));exact⟨_,rfl,fun _=>rfl,(fun h=>absurd h h5),H.ext⟩
     .intro h5;replace h5:=CZ h5;refine Ay (Aa (Ae (A4 U (Cn U (Ad U (qA (A5 (Cf (v1:=(.pointer _)) (v2:=(.int _ _)) U U U U ?_))))))));have h5':tt.2=0:=by omega
      refine⟨_,by rw[h5'],(fun h=>absurd h5' h),(fun _=>⟨b24,b,o,rfl,H.get at0,H.get at1,hM,?_,?_,H.ne at0 at1 (by decide)⟩),H.ext⟩
      .exact(H.own (b24,_) (qac (i:=0) U)).elim (fun h=>by cases h) id
      .exact(H.own (b,_) (qac (i:=1) U)).elim (fun h=>by cases h) id
structure Ac where
 ba:Int
 re:Int
instance:DecidableEq Ac:=fun x y=>if h:x.ba=y.ba/\x.re=y.re then isTrue (by cases x;cases y;simp_all)else isFalse fun e=>h (by subst e;exact⟨rfl,rfl⟩)
abbrev Dl(a:Ac):List Value:=[.int .i64 a.ba,.int .i64 a.re]
theorem J4(a:Ac):∀v∈Dl a,AY v=true:=by simp[Dl,AY]
theorem Aa5(acs:List Ac):∀v∈acs.flatMap Dl,AY v=true:=fun v hv=>by
 obtain⟨a,_,h⟩:=List.mem_flatMap.1 hv;exact J4 a v h
theorem VD(acs:List Ac):(acs.flatMap Dl).length=acs.length*2:=by
 induction acs with
 |nil=>rfl
 |cons a acs ih =>
  rw[qbz,qat,ih];show 2+acs.length*2=(acs.length+1)*2;omega
theorem Aa6(a:Option Addr)(n c:Nat)(acs:List Ac)(w:World)(R:Rd w a 2 Dl acs)(hn:acs.length=n)(hm:n<=1000000000) :
  Ret prog 90 #[.slice a n c] w fun v w'=>Fresh w w' 108 2 v (acs.flatMap Dl):=by
 subst hn;obtain⟨w0,rfl,H⟩:=qE w;refine Au (fn:=f90) func90 U [.slice a acs.length c] U (Ae (Am U (qA (Ax (Ae (Ap U (Ih U EQ U (qA (Aw _ U ?_ ?_)))))))))
 .intro h1;have ha:a=none:=by simpa using h1
  subst ha
  have hxs:acs=[]:=by
   cases acs with
   |nil=>rfl
   |cons x xs=>obtain⟨b,o,h⟩:=R.some' (by simp);cases h
  subst hxs;refine Ae (Am U (qA (A5 (Av (AB (v:=(.slice _ _ _)) U U U ?_)))));exact Fresh.nil H _ _
 .intro h1;refine Ay (Aa (Ae (GQ EQ DO H ?_)));rintro b5 w H O;refine Ap U (GO U EQ EQ DO Adj HA U (acs.flatMap Dl) U U H O (VD acs) (Aa5 acs) ((R.ext0 H.ext).app (fun _ _=>rfl) (by omega)) ?_);rintro a7 c7 full7 w H O;refine Am U (qA (A5 (AB (v:=(.slice _ _ _)) U U U ?_)));exact H.fresh O
theorem QL{bd:Nat}(a:Option Addr)(n c:Nat)(acs:List Ac)(w:World)(hd:w.heap[bd]?=some (Bl 129 [.slice a n c]))(R:Rd w a 2 Dl acs)(hn:acs.length=n)(hm:n<=1000000000:=by omega):
  Ret prog 46 #[ptr bd] w fun v w'=>Fresh w w' 108 2 v (acs.flatMap Dl):=by
 obtain⟨w0,rfl,H⟩:=qE w;refine Au (fn:=f46) func46 U [.pointer (some ⟨bd,0,none⟩)] U ?_;refine Ae (Am U (qA (Ax (Ae (A4 U (Cw OI U ?_))))));refine qA (Aw _ U ?_ ?_)
 .intro h0;cases h0
 .intro h0;refine Ay (Aa (Ae (A4 U (A9 U (Ah ES U (Bb IU U ((by rw[Aj hd];rfl)) ?_))))));refine Al qB (Aa6 a n c acs _ R hn hm) U ?_;rintro v w F;obtain⟨a9,n9,c9,full9,rfl,O9,hb9⟩:=F.ex;refine Am U (qA (A5 (AB (v:=(.slice _ _ _)) U U U ?_)));exact F
theorem Ni{α β:Type}{f:α->β}{l:List α}{i:Nat}{x:α}(h:l[i]?=some x):(l.take (i+1)).map f=(l.take i).map f++[f x]:=by
 rw[qb6,h,qav];rfl
theorem Lo{bd:Nat}(a:Option Addr)(n c:Nat)(acs:List Ac)(w:World)(hd:w.heap[bd]?=some (Bl 129 [.slice a n c]))(R:Rd w a 2 Dl acs)(hn:acs.length=n)(hm:n<=1000000:=by omega):
  Ret prog 98 #[ptr bd] w fun v w'=>Fresh w w' 2 1 v ((acs.map (·.ba)).map Eb):=by
 subst hn;obtain⟨w0,rfl,H⟩:=qE w;refine Au (fn:=f98) func98 U [.pointer (some ⟨bd,0,none⟩)] U ?_;refine Ae (Am U (qA (Ae (Am U (qA (Ax (Ae (A4 U (A9 U ?_)))))))));refine Ah ES U (Bb IU U ((by rw[Aj hd];rfl)) ?_);refine Be EQ U (Af U (qA (A1 (Bw 2095144 (α:=LSt) (fun t=>[(3,.slice t.a t.i t.c),(11,.int .i64 (t.i:Int))]) (fun t w'=>t.i<=acs.length/\OS t.a t.i t.c 1 t.full (((acs.take t.i).map (·.ba)).map Eb)/\Ctx w0 [] w' (ent t.a 2 t.full)) (fun t=>acs.length - t.i) ⟨0,none,0,[]⟩ U ?_ ?_ ?_))))
 .exact⟨rfl,rfl,trivial⟩
 .exact⟨qaq _,OS.nil,H⟩
 .rintro⟨i,a2,c2,full⟩ j w ⟨hi,O,H⟩;dsimp only at hi O H;dsimp only;refine Ae (Bm U U (qA (Ax (Aw _ U ?_ ?_))))
  .intro h1;replace h1:=AM h1;obtain⟨x,hx⟩:=AE (l:=acs) (i:=i);refine Ay (Aa (Ax (A1 (Ae (Bg R EQ DO U U (by rfl) ?_)))));refine C9 _ Ml DO U U ((R.ext0 H.ext).row hx U) (Bc HA H ?_);rintro b5 w - H;refine Bn DO U U U (by exact J4 _) H at0 U ?_;rintro w H;refine qA (A0 (Ap U (Ah F4 U (AG B4 U H at0 U (Cp _ (.int _ _) Bf BD Fh U U U U H ?_)))));rintro b18 w - H;refine Cy (L:=[_]) Bf Bf BD Mn Fh U U U H O U (by simp[AY]) ?_;rintro a' c' full' w H O;refine Am U (Ab (A8 (Aa (A0 (Az U U ?_)))));refine Af U (qA ?_);exact⟨⟨i+1,a',c',full'⟩,rfl,⟨rfl,rfl,trivial⟩,⟨by dsimp only;omega,by dsimp only;rw[Ni hx,qav];exact O,H.tail⟩,by dsimp only;omega⟩
  .intro h1;replace h1:=AN h1;refine Bt (An (An (AK (Aa (Ae (Ap U (Am U (qA (A5 (AB (v:=(.slice _ _ _)) U U U ?_))))))))));obtain rfl:i=acs.length:=by omega
   rw[qbm]at O;exact Ctx.fresh (L:=[]) H O
def Eh(a:Ac):Int:=max 0 (a.ba - a.re)
def Nj(a:Ac):Bool:=Dp a.ba && Dp a.re
theorem Af1{bd:Nat}(a:Option Addr)(n c:Nat)(acs:List Ac)(w:World)(hd:w.heap[bd]?=some (Bl 129 [.slice a n c]))(R:Rd w a 2 Dl acs)(hn:acs.length=n)(hmay:∀x∈acs,Nj x=true)(hm:n<=1000000:=by omega):
  Ret prog 116 #[ptr bd] w fun v w'=>Fresh w w' 2 1 v ((acs.map Eh).map Eb):=by
 obtain⟨w0,rfl⟩:=qD w;refine Au (fn:=f116) func116 U [.pointer (some ⟨bd,0,none⟩)] U ?_;refine Ae (Am U (qA (Ae (Am U (qA (Ax (Ae (A4 U (Al qB (QL a n c acs _ hd R hn) U ?_)))))))));rintro v w F;obtain⟨a7,n7,c7,full7,rfl,O7,hb7⟩:=F.ex;have hl7:=O7.llen;rw[VD]at hl7;obtain rfl:acs.length=n7:=by omega
 refine Be EQ U (Af U (qA (A1 ?_)));obtain⟨w1,rfl,H⟩:=qE w;have R7:Rd w1 a7 2 Dl acs:=OS.rd O7 (fun x hx=>(hb7 x hx).1) (fun _ _=>rfl) (by omega);refine Bw 8388136 (α:=LSt) (fun t=>[(3,.slice t.a t.i t.c),(9,.int .i64 (t.i:Int))]) (fun t w'=>t.i<=acs.length/\OS t.a t.i t.c 1 t.full (((acs.take t.i).map Eh).map Eb)/\Ctx w1 [] w' (ent t.a 2 t.full)) (fun t=>acs.length - t.i) ⟨0,none,0,[]⟩ U ?_ ?_ ?_
 .exact⟨rfl,rfl,trivial⟩
 .exact⟨qaq _,OS.nil,H⟩
 .rintro⟨i,a2,c2,full⟩ j w ⟨hi,O,H⟩;dsimp only at hi O H;dsimp only;refine Ae (Bm U U (qA (Ax (Aw _ U ?_ ?_))))
  .intro h1;replace h1:=AM h1;obtain⟨x,hx⟩:=AE (l:=acs) (i:=i);have hxm:=hmay x (qac hx)
   have hx2:(0<=x.ba/\x.ba<=4503599627370496)/\0<=x.re/\x.re<=4503599627370496:=by
    unfold Nj at hxm;rw[qae,CT,CT]at hxm;exact hxm
   refine Ay (Aa (Ax (A1 (Ae (Bg R7 EQ DO U U (by rfl) ?_)))));refine C9 _ Ml DO U U ((R7.ext0 H.ext).row hx U) (Bc HA H ?_);rintro b5 w - H;refine Bn DO U U U (by exact J4 _) H at0 U ?_;rintro w H;refine qA (A0 (Ap U (Ah F4 U (AG B4 U H at0 U (Ah MP U (AG B4 U H at0 U (Bo U U ?_)))))));refine MF U U U (Cp _ (.int _ _) Bf BD Fh U U U U H ?_);rintro b20 w - H;refine Cy (L:=[_]) Bf Bf BD Mn Fh U U U H O U (by simp[AY]) ?_;rintro a' c' full' w H O;refine Am U (Ab (A8 (Aa (A0 (Az U U ?_)))));refine Af U (qA ?_);exact⟨⟨i+1,a',c',full'⟩,rfl,⟨rfl,rfl,trivial⟩,⟨by dsimp only;omega,by dsimp only;rw[Ni hx,qav];exact O,H.tail⟩,by dsimp only;omega⟩
  .intro h1;replace h1:=AN h1;refine Bt (An (An (AK (Aa (Ae (Ap U (Am U (qA (A5 (AB (v:=(.slice _ _ _)) U U U ?_))))))))));obtain rfl:i=acs.length:=by omega
   rw[qbm]at O;obtain⟨⟨a3,n3,c3,f3,e1,e2,e3⟩,e4⟩:=Ctx.fresh (L:=[]) H O;exact⟨⟨a3,n3,c3,f3,e1,e2,fun x hx=>⟨(e3 x hx).1,qa6 F.ext.size (e3 x hx).2⟩⟩,F.ext.trans e4⟩
def F9(acs:List Ac):Int:=if 16<acs.length then 6 else if acs.all Nj=false then 1 else(Fl (acs.map Ac.ba)).2
def a00:Ac:=⟨0,0⟩
def acZ(acs:List Ac)(z:Nat->Int)(k i:Nat):Ac:=if i<k then⟨z i,(acs.getD i a00).re⟩else acs.getD i a00
def Ul(acs:List Ac)(z:Nat->Int)(k:Nat):List Ac:=(List.range acs.length).map (acZ acs z k)
theorem VE(acs:List Ac)(z:Nat->Int)(k:Nat):(Ul acs z k).length=acs.length:=by unfold Ul;simp
theorem QM{acs:List Ac}{z:Nat->Int}{k i:Nat}(h:i<acs.length):(Ul acs z k)[i]?=some (acZ acs z k i):=Ec h
theorem SO(acs:List Ac)(z:Nat->Int):Ul acs z 0=acs:=by
 refine qci fun i=>?_
 rcases qap i acs.length with h|h
 .obtain⟨e,he⟩:=AE (h:=h);rw[QM h,he];unfold acZ;rw[if_neg (by omega),Bv he]
 .rw[qbi (by rw[VE];exact h),qbi h]
theorem Af2{acs:List Ac}{z:Nat->Int}{i:Nat}:(Ul acs z i).set i (acZ acs z (i+1) i)=Ul acs z (i+1):=by
 unfold Ul;refine Jq U fun j hj hn=>?_;unfold acZ
 by_cases h:j<i
 .rw[if_pos h,if_pos (by omega)]
 .rw[if_neg h,if_neg (by omega)]
def shA(acs:List Ac)(ys:List Int):List Ac:=if DY (acs.map Ac.ba) ys=0 then List.zipWith (fun a y=>⟨a.ba+y,a.re⟩) acs ys else acs
def shZ(acs:List Ac)(ys:List Int):List Int:=if DY (acs.map Ac.ba) ys=0 then Dr (acs.map Ac.ba) ys else[]
theorem XH{xs ys:List Int}(h:DY xs ys=0):xs.length=ys.length:=by
 unfold DY at h
 split at h
 .omega
 .rename_i h1
  have h2:(decide (xs.length=ys.length) && (xs.all Dp && Jb ys))=true:=by simpa using h1
  simp only[qae,qar]at h2;exact h2.1
theorem Aqm(acs:List Ac)(ys:List Int):(shZ acs ys).length<=acs.length:=by
 unfold shZ
 split
 .unfold Dr;rw[qc5,qal];omega
 .simp
theorem Aqn(acs:List Ac)(ys:List Int):Ul acs (fun i=>(shZ acs ys).getD i 0) (shZ acs ys).length=shA acs ys:=by
 unfold shA shZ
 by_cases h:DY (acs.map Ac.ba) ys=0
 .rw[if_pos h,if_pos h];have hl:=XH h;rw[qal]at hl;have hsl:(Dr (acs.map Ac.ba) ys).length=acs.length:=by unfold Dr;rw[qc5,qal];omega
  refine qci fun i=>?_
  rcases qap i acs.length with h7|h7
  .obtain⟨e,he⟩:=AE (h:=h7);obtain⟨y,hy⟩:=AE (l:=ys) (i:=i);rw[QM h7,qed,he,hy];unfold acZ;dsimp only;rw[if_pos (by omega),Bv he,Bv (Lk (xs:=acs.map Ac.ba) (x:=e.ba) (by rw[qa1,he];rfl) hy)]
  .rw[qbi (by rw[VE];exact h7),qbi (by rw[qc5];omega)]
 .rw[if_neg h,if_neg h];exact SO _ _
theorem Aqo{acs:List Ac}{ys zs:List Int}{v':Value}{w0 w1 w:World}(hz:zs=shZ acs ys)(hx:Ext [] w0 w1)(h1:DY (acs.map Ac.ba) ys≠0->v'=.slice none 0 0)(h2:DY (acs.map Ac.ba) ys=0->Fresh w1 w 2 1 v' ((Dr (acs.map Ac.ba) ys).map Eb)) :
  ∃a4 n4 c4,v'=.slice a4 n4 c4/\zs.length=n4/\Rd w a4 1 I1 zs/\(zs≠[]->w0.heap.size<=(adr a4).block):=by
 subst hz;unfold shZ
 by_cases h:DY (acs.map Ac.ba) ys=0
 .rw[if_pos h];obtain⟨a,n,c,full,rfl,O,hb⟩:=(h2 h).ex;have hl:=O.llen;rw[qal]at hl;refine⟨a,n,c,rfl,by omega,O.rd1 fun x hx=>(hb x hx).1,fun hne=>?_⟩
  have hpos:0<n:=by
   have:=qb2.2 hne;omega
  obtain⟨q,rfl⟩:=O.form hpos;exact qa6 hx.size (hb (q,Bl 2 full) (qab.2 U)).2
 .rw[if_neg h];exact⟨none,0,0,h1 h,rfl,Rd.nil,fun h=>absurd rfl h⟩
structure HSt where
 i:Nat
 full:List Value
theorem Aa7{bd:Nat}(a b:Option Addr)(c m d:Nat)(full:List Value)(acs:List Ac)(ys:List Int)(w:World)(hd:w.heap[bd]?=some (Bl 129 [.slice a acs.length c]))(O:OS a acs.length c 2 full (acs.flatMap Dl))(hb:∀x∈ent a 108 full,w.heap[x.1]?=some x.2/\x.1≠bd)(Ry:Rd w b 1 I1 ys)(hm:ys.length=m)(hn:acs.length<=1000000:=by omega)(hm2:m<=1000000:=by omega):
  Ret prog 122 #[ptr bd,.slice b m d] w fun v w'=>v=.int .i64 (DY (acs.map Ac.ba) ys)/\∃full',OS a acs.length c 2 full' ((shA acs ys).flatMap Dl)/\(∀x∈ent a 108 full',w'.heap[x.1]?=some x.2)/\Ext ((ent a 108 full).map (·.1)) w w':=by
 obtain⟨w0,rfl⟩:=qD w;have R:Rd w0 a 2 Dl acs:=OS.rd O (fun x hx=>(hb x hx).1) (fun _ _=>rfl) (by omega);obtain⟨code,hcode⟩:=qD (DY (acs.map Ac.ba) ys);obtain⟨zs,hzs⟩:=qD (shZ acs ys);have hzl:zs.length<=acs.length:=by rw[hzs];exact Aqm acs ys
 rw[<-Aqn,<-hzs,<-hcode];refine Au (fn:=f122) func122 U [.pointer (some ⟨bd,0,none⟩),.slice b m d] U ?_;refine Ae (Ad U (qA (Ax (Ae (A4 U (Cw OI U ?_))))));refine qA (Aw _ U ?_ ?_)
 .intro h0;cases h0
 .intro h0;refine Ay (Aa (Ae (A4 U (Al qB (Lo a acs.length c acs _ hd R U (hm:=hn)) U ?_))));rintro v w F;obtain⟨a3,n3,c3,f3,rfl,O3,hb3⟩:=F.ex;have hl3:=O3.llen;rw[qal,qal]at hl3;refine Ap U (Al qB (Aa0 a3 b n3 c3 m d (acs.map Ac.ba) ys _ (O3.rd1 fun x hx=>(hb3 x hx).1) (by rw[qal];omega) (Ry.ext0 F.ext) hm hm2) U ?_);rintro v w ⟨v',rfl,hv1,hv2,hx15⟩;rw[<-hcode];obtain⟨a4,n4,c4,rfl,hn4,R4,hbz⟩:∃a4 n4 c4,v'=.slice a4 n4 c4/\zs.length=n4/\Rd w a4 1 I1 zs/\(zs≠[]->w0.heap.size<=(adr a4).block):=Aqo hzs F.ext hv1 hv2;refine Cr U (AH U U (AH U U (Am U (Ad U (qA (Ax (Ae (Ap U (Be Bf U ?_)))))))));refine Af U (qA (A1 ?_));subst hn4;obtain⟨w1,rfl⟩:=qD w;have hx1:=F.ext.trans hx15;have hb1:∀x∈ent a 108 full,w1.heap[x.1]?=some x.2:=fun x hx=>hx1.to (hb x hx).1 (by simp)
  obtain⟨ids,hids⟩:=qD ((ent a 108 full).map (·.1))
  have hidl:∀y∈ids,y<w0.heap.size/\y≠bd:=fun y hy=>by
   rw[hids]at hy;obtain⟨x,hx,rfl⟩:=qah.1 hy;exact⟨Bd (hb x hx).1,(hb x hx).2⟩
  have H:Ctx w1 ids w1 (ent a 108 full):=⟨Ext.refl _ _,hb1,Fu,fun x hx => .inl (by rw[hids];exact qa4 (f:=(·.1)) hx)⟩;have hd1:=hx1.to hd (by simp);rw[<-hids];refine Bw 17178820992 (α:=HSt) (fun t=>[(20,.int .i64 (t.i:Int))]) (fun t w'=>t.i<=zs.length/\OS a acs.length c 2 t.full ((Ul acs (fun i=>zs.getD i 0) t.i).flatMap Dl)/\Ctx w1 ids w' (ent a 108 t.full)) (fun t=>zs.length - t.i) ⟨0,full⟩ U ?_ ?_ ?_
  .exact⟨rfl,trivial⟩
  .exact⟨qaq _,by dsimp only;rw[SO];exact O,H⟩
  .rintro⟨i,fu⟩ j w ⟨hi,O,H⟩;dsimp only at hi O H;dsimp only;refine Ae (Bm U U (qA (Ax (Aw _ U ?_ ?_))))
   .intro h1;replace h1:=AM h1;obtain⟨z,hz⟩:=AE (l:=zs) (i:=i);have hzne:zs≠[]:=fun h=>by rw[h]at hz;cases hz
    have hz0:zs.getD i 0=z:=Bv hz;obtain⟨q,rfl⟩:=O.form (by omega);have hil:i<acs.length:=by omega
    obtain⟨ac,hac⟩:=AE (h:=hil);have hOl:=O.len;have hqn:=O.le;have hzb:(adr a4).block∉ids:=fun h=>by have:=hidl _ h;have:=hbz hzne;omega
    refine Ay (Aa (Ax (A1 (Ae (Af U (Bg R4 Bf BD U U (by rfl) ?_))))));refine Bb B4 U (((R4.ext H.ext hzb).fld hz U (j:=0) U)) (Ad U (Ad U (qA (A0 (A4 U (A9 U (Ah ES U (Bb IU U ((H.old (Aj hd1 _) (fun h=>(hidl _ h).2 rfl))) ?_))))))));refine Af U (Af U (Bp EQ DO U U ?_));refine Ah F4 U (Cb (.int _ _) BD U U U H at0 (by omega) ?_);rintro w H;refine Ab (A8 (Aa (A0 (Az U U ?_))));refine Af U (qA ?_);rw[show 0+((i:Int)).toNat*2+0=i*2+0 by omega]at H;have O1:=OS.setf O (y:=acZ acs (fun i=>zs.getD i 0) (i+1) i) (j:=0) (v := .int .i64 z) (fun _=>rfl) (QM hil) (by decide) (by unfold acZ Dl;dsimp only;rw[if_pos (by omega),if_neg (by omega),hz0];rfl);rw[Af2]at O1;exact⟨⟨i+1,_⟩,rfl,⟨rfl,trivial⟩,⟨by dsimp only;omega,O1,H⟩,by dsimp only;omega⟩
   .intro h1;replace h1:=AN h1;refine Bt (An (An (AK (Aa (Ae (Af U (Ad U (qA (A5 (AB (v:=(.int _ _)) U U U ?_))))))))));obtain rfl:i=zs.length:=by omega
    exact⟨rfl,fu,O,fun x hx=>H.blk x hx,(hx1.mono (by simp)).trans H.ext⟩
def inM(x y:Int):Bool:=Dp x && GX y
theorem Af3(x y:Ac):decide (x=y)=true↔Dl x=Dl y:=by
 obtain⟨a,b⟩:=x;obtain⟨c,d⟩:=y;simp[Dl]
theorem Af4(x y:Du):decide (x=y)=true↔Dn x=Dn y:=by
 obtain⟨a,b,c,d,e,f,g⟩:=x;obtain⟨a',b',c',d',e',f',g'⟩:=y;simp[Dn]
theorem Nk{α:Type}{xs ys:List α}(hl:xs.length=ys.length)(h:∀(k:Nat) (x y:α),k<xs.length->xs[k]?=some x->ys[k]?=some y->x=y):xs=ys:=by
 refine qci fun i=>?_
 rcases qap i xs.length with h7|h7
 .obtain⟨x,hx⟩:=AE (l:=xs) (i:=i) (h:=h7);obtain⟨y,hy⟩:=AE (l:=ys) (i:=i);rw[hx,hy,h i x y h7 hx hy]
 .rw[qbi (by omega),qbi (by omega)]
theorem Aa8(a b:Option Addr)(n c m d:Nat)(xs ys:List Ac)(w:World)(R:Rd w a 2 Dl xs)(hn:xs.length=n)(hn2:n<=1000000)(Ry:Rd w b 2 Dl ys)(hm:ys.length=m)(hm2:m<=1000000) :
  Ret prog 43 #[.slice a n c,.slice b m d] w fun v w'=>v=.bool (decide (xs=ys))/\Ext [] w w':=by
 subst hn hm;obtain⟨w0,rfl,H⟩:=qE w;refine Au (fn:=f43) func43 U [.slice a xs.length c,.slice b ys.length d] U (Ae (Ai U (qA (Ax (Ae (Ap U (Be EQ U (Ap U (Be EQ U (CK U U ?_))))))))));refine qA (Aw _ U ?_ ?_)
 .intro h1;replace h1:=CY h1;refine Ae (Ai U (qA (A5 (Av (AB (v:=(.bool _)) U U U ?_)))));exact⟨qaa Value.bool (qa2 fun h=>by rw[h]at h1;simp at h1).symm,H.ext⟩
 .intro h1;replace h1:=CZ h1;have hle:xs.length=ys.length:=by omega
  refine Ay (Aa (Ax (Ae (Ad U (qA (A1 (Bw 67106864 (α:=Nat) (fun i=>[(5,.int .i64 (i:Int))]) (fun i w'=>i<=xs.length/\Ctx w0 [] w' []/\∀(k:Nat) (x y:Ac),k<i->xs[k]?=some x->ys[k]?=some y->x=y) (fun i=>xs.length - i) 0 U ?_ ?_ ?_)))))))
  .exact⟨rfl,trivial⟩
  .exact⟨qaq _,H,fun k x y h=>absurd h (qbd _)⟩
  .clear H;rintro i j w ⟨hi,H,hb⟩;refine Ax (Ae (Af U (Ap U (Be EQ U (Bm U U (qA (Aw _ U ?_ ?_)))))))
   .intro h2;replace h2:=AM h2;obtain⟨x,hx⟩:=AE (l:=xs) (i:=i);obtain⟨y,hy⟩:=AE (l:=ys) (i:=i);refine Ay (Aa (Ax (A1 (DT (fun x=>x=_) Br U ?_))));refine Ca U (AX U (BL R EQ DO U U (by rfl) ?_));refine G8 _ Ml DO U U (by rintro _ rfl;exact((R.ext0 H.drew.ext).row hx rfl)) ?_;refine Ca U (AX U (BL Ry EQ DO U U (by rfl) ?_));refine G8 _ Ml DO U U (by rintro _ rfl;exact((Ry.ext0 H.drew.ext).row hy rfl)) ?_;refine Yv (ks:=[true,true]) (xs:=Dl x) (ys:=Dl y) (decide (x=y)) U U U ⟨rfl,rfl,trivial⟩ (Af3 x y) ?_;refine BS ?_;rintro _ rfl;replace H:=H.drew;refine Aw _ U ?_ ?_
    .intro h3;refine Ae (Ai U (qA (A5 (AF (Av (Av (AF (Av (AB (v:=(.bool _)) U U U ?_)))))))));have hne:¬x=y:=by simpa using h3
     exact⟨qaa Value.bool (qa2 fun h=>by subst h;rw[hx]at hy;injection hy with hy;exact hne hy).symm,H.ext⟩
    .intro h3;refine Ay (A8 (Aa (A0 (Af U (Az U U ?_)))));refine Ad U (qA ?_);have heq:x=y:=by simpa using h3
     refine⟨i+1,rfl,⟨rfl,trivial⟩,⟨by omega,H,fun k x' y' hk hx' hy'=>?_⟩,by omega⟩
     rcases qap k i with h7|h7
     .exact hb k x' y' h7 hx' hy'
     .obtain rfl:k=i:=by omega
      rw[hx]at hx';rw[hy]at hy';cases hx';cases hy';exact heq
   .intro h2;replace h2:=AN h2;refine Bt (An (An (AK (Aa (Ae (Ai U (qA (A5 (AB (v:=(.bool _)) U U U ?_)))))))));obtain rfl:i=xs.length:=by omega
    exact⟨qaa Value.bool (qan (Nk hle hb)).symm,H.ext⟩
theorem Aa9(a b:Option Addr)(n c m d:Nat)(xs ys:List Du)(w:World)(R:Rd w a 7 Dn xs)(hn:xs.length=n)(hn2:n<=1000000)(Ry:Rd w b 7 Dn ys)(hm:ys.length=m)(hm2:m<=1000000) :
  Ret prog 44 #[.slice a n c,.slice b m d] w fun v w'=>v=.bool (decide (xs=ys))/\Ext [] w w':=by
 subst hn hm;obtain⟨w0,rfl,H⟩:=qE w;refine Au (fn:=f44) func44 U [.slice a xs.length c,.slice b ys.length d] U (Ae (Ai U (qA (Ax (Ae (Ap U (Be D9 U (Ap U (Be D9 U (CK U U ?_))))))))));refine qA (Aw _ U ?_ ?_)
 .intro h1;replace h1:=CY h1;refine Ae (Ai U (qA (A5 (Av (AB (v:=(.bool _)) U U U ?_)))));exact⟨qaa Value.bool (qa2 fun h=>by rw[h]at h1;simp at h1).symm,H.ext⟩
 .intro h1;replace h1:=CZ h1;have hle:xs.length=ys.length:=by omega
  refine Ay (Aa (Ax (Ae (Ad U (qA (A1 (Bw 67106864 (α:=Nat) (fun i=>[(5,.int .i64 (i:Int))]) (fun i w'=>i<=xs.length/\Ctx w0 [] w' []/\∀(k:Nat) (x y:Du),k<i->xs[k]?=some x->ys[k]?=some y->x=y) (fun i=>xs.length - i) 0 U ?_ ?_ ?_)))))))
  .exact⟨rfl,trivial⟩
  .exact⟨qaq _,H,fun k x y h=>absurd h (qbd _)⟩
  .clear H;rintro i j w ⟨hi,H,hb⟩;refine Ax (Ae (Af U (Ap U (Be D9 U (Bm U U (qA (Aw _ U ?_ ?_)))))))
   .intro h2;replace h2:=AM h2;obtain⟨x,hx⟩:=AE (l:=xs) (i:=i);obtain⟨y,hy⟩:=AE (l:=ys) (i:=i);refine Ay (Aa (Ax (A1 (DT (fun x=>x=_) Br U ?_))));refine Ca U (AX U (BL R D9 BV U U (by rfl) ?_));refine G8 _ E4 BV U U (by rintro _ rfl;exact((R.ext0 H.drew.ext).row hx rfl)) ?_;refine Ca U (AX U (BL Ry D9 BV U U (by rfl) ?_));refine G8 _ E4 BV U U (by rintro _ rfl;exact((Ry.ext0 H.drew.ext).row hy rfl)) ?_;refine Yv (ks:=[true,true,true,true,true,true,false]) (xs:=Dn x) (ys:=Dn y) (decide (x=y)) U U U ⟨rfl,rfl,rfl,rfl,rfl,rfl,True.intro,True.intro⟩ (Af4 x y) ?_;refine BS ?_;rintro _ rfl;replace H:=H.drew;refine Aw _ U ?_ ?_
    .intro h3;refine Ae (Ai U (qA (A5 (AF (Av (Av (AF (Av (AB (v:=(.bool _)) U U U ?_)))))))));have hne:¬x=y:=by simpa using h3
     exact⟨qaa Value.bool (qa2 fun h=>by subst h;rw[hx]at hy;injection hy with hy;exact hne hy).symm,H.ext⟩
    .intro h3;refine Ay (A8 (Aa (A0 (Af U (Az U U ?_)))));refine Ad U (qA ?_);have heq:x=y:=by simpa using h3
     refine⟨i+1,rfl,⟨rfl,trivial⟩,⟨by omega,H,fun k x' y' hk hx' hy'=>?_⟩,by omega⟩
     rcases qap k i with h7|h7
     .exact hb k x' y' h7 hx' hy'
     .obtain rfl:k=i:=by omega
      rw[hx]at hx';rw[hy]at hy';cases hx';cases hy';exact heq
   .intro h2;replace h2:=AN h2;refine Bt (An (An (AK (Aa (Ae (Ai U (qA (A5 (AB (v:=(.bool _)) U U U ?_)))))))));obtain rfl:i=xs.length:=by omega
    exact⟨qaa Value.bool (qan (Nk hle hb)).symm,H.ext⟩
theorem Aba(ds:List Du):∀v∈ds.flatMap Dn,AY v=true:=fun v hv=>by
 obtain⟨a,_,h⟩:=List.mem_flatMap.1 hv;exact Dx a v h
theorem QN(ds:List Du):(ds.flatMap Dn).length=ds.length*7:=by
 induction ds with
 |nil=>rfl
 |cons a ds ih =>
  rw[qbz,qat,ih];show 7+ds.length*7=(ds.length+1)*7;omega
def pC(d:Du)(x:Int):Int:=if x<0 then 1 else if d.held=true then 14 else if d.am<x then 12 else 0
def pD(d:Du)(x:Int):Du:=if pC d x=0 then{ d with am:=d.am - x }else d
theorem Akc{b7 bx:Nat}{d:Du}{x:Int}(w:World)(h7:w.heap[b7]?=some (Bl 118 (Dn d)))(hx:w.heap[bx]?=some (Bl 2 [.int .i64 x]))(ham:0<=d.am/\d.am<=4503599627370496)(hne:bx≠b7:=by omega):
  Ret prog 155 #[ptr b7,ptr bx] w fun v w'=>v=.int .i64 (pC d x)/\Ctx w [b7] w' [(b7,Bl 118 (Dn (pD d x)))]:=by
 obtain⟨w0,rfl⟩:=qD w;have H:=Ctx.start1 h7;have hn:bx∉[b7]:=by rw[qab];exact hne
 refine Au (fn:=f155) func155 U [.pointer (some ⟨b7,0,none⟩),.pointer (some ⟨bx,0,none⟩)] U ?_;refine Ae (Ad U (qA (Ax (A1 (Ae (Bb B4 U ((H.old (Aj hx _) hn)) ?_))))));refine Bm U U (Ai U (qA (Aw _ U ?_ ?_)))
 .intro h1;replace h1:=AM h1;refine Ae (Ad U (qA (A5 (AF (Av (AB (v:=(.int _ _)) U U U ?_))))));have hp:pC d x=1:=if_pos h1;exact⟨by rw[hp],by unfold pD;rw[hp,if_neg (by decide)];exact H⟩
 .intro h1;replace h1:=AN h1;refine Ae (A4 U (A9 U (Ah KO U (AG LI U H at0 U (Ai U (qA (Aw _ U ?_ ?_)))))))
  .intro h2;refine Ae (Ad U (qA (A5 (AF (Av (AB (v:=(.int _ _)) U U U ?_))))));have hp:pC d x=14:=by unfold pC;rw[if_neg (by omega),if_pos h2]
   exact⟨by rw[hp],by unfold pD;rw[hp,if_neg (by decide)];exact H⟩
  .intro h2;refine DT (fun x=>x=_) Br U ?_;refine BX B4 U (by rintro _ rfl;exact((H.old (Aj hx _) hn))) ?_;refine BE U (AZ U (A6 ER U (Cj B4 U (by rintro _ rfl;exact H.drew) at0 U ?_)));refine Se U U U (NC U U (BS ?_));rintro _ rfl;replace H:=H.drew;refine Aw _ U ?_ ?_
   .intro h3;replace h3:=AM h3;refine Ae (Ad U (qA (A5 (AF (Av (AB (v:=(.int _ _)) U U U ?_))))));have hp:pC d x=12:=by unfold pC;rw[if_neg (by omega),if_neg (by rw[h2];decide),if_pos h3]
    exact⟨by rw[hp],by unfold pD;rw[hp,if_neg (by decide)];exact H⟩
   .intro h3;replace h3:=AN h3;refine Ay (A8 (Aa (Ej 8 Br U U ?_)));refine BE U (AZ U (A6 ER U (Cj B4 U (by rintro _ rfl;exact H.drew) at0 U ?_)));refine BX B4 U (by rintro _ rfl;exact((H.old (Aj hx _) hn))) ?_;refine EA U U (AZ U (A6 ER U (BS ?_)));replace H:=H.drew;refine Cb (.int _ _) BD U U U H at0 (by(simp;done)) ?_;rintro w H;refine qA (Ae (Ad U (qA (A5 (AB (v:=(.int _ _)) U U U ?_)))));have hp:pC d x=0:=by unfold pC;rw[if_neg (by omega),if_neg (by rw[h2];decide),if_neg (by omega)]
    exact⟨by rw[hp],by unfold pD;rw[hp,if_pos rfl];exact H⟩
def CQ(ds:List Du)(k:Int):Option Du:=ds.find? fun d=>d.id == k
theorem Il(ds:List Du)(k:Int):Ea (dm ds) k=(CQ ds k).map GG:=by
 induction ds with
 |nil=>rfl
 |cons x ds ih =>
  unfold dm Ea CQ at ih |-;rw[qay,qb7,qb7]
  cases h:x.id == k with
  |true=>rfl
  |false=>exact ih
def Ib:List Du->Int->Int->List Du
 | [],_,_=>[]
 |d::ds,k,x=>if d.id=k then(if d.am=x then ds else{ d with am:=d.am - x }::ds)else d::Ib ds k x
theorem Af5{ds:List Du}{k x:Int}{d:Du}(h:CQ ds k=some d)(hx:d.am=x:=by omega):Mg (dm ds) k=dm (Ib ds k x):=by
 induction ds with
 |nil=>cases h
 |cons y ds ih =>
  unfold CQ at h;rw[qb7]at h
  by_cases e:y.id=k
  .rw[show(y.id == k)=true by simpa using e]at h
   injection h with h
   subst h;unfold Ib;rw[if_pos e,if_pos hx];show(if y.id=k then dm ds else _)=_;rw[if_pos e]
  .rw[show(y.id == k)=false by simpa using e]at h;unfold Ib;rw[if_neg e];show(if y.id=k then _ else(y.id,GG y)::Mg (dm ds) k)=_;rw[if_neg e,ih h];rfl
theorem Af6{ds:List Du}{k x:Int}{d:Du}(h:CQ ds k=some d)(hx:¬d.am=x):Ku (dm ds) k (GG { d with am:=d.am - x })=dm (Ib ds k x):=by
 induction ds with
 |nil=>cases h
 |cons y ds ih =>
  unfold CQ at h;rw[qb7]at h
  by_cases e:y.id=k
  .rw[show(y.id == k)=true by simpa using e]at h
   injection h with h
   subst h;unfold Ib;rw[if_pos e,if_neg hx];show(if y.id=k then(k,_)::dm ds else _)=_;rw[if_pos e,<-e];rfl
  .rw[show(y.id == k)=false by simpa using e]at h;unfold Ib;rw[if_neg e];show(if y.id=k then _ else(y.id,GG y)::Ku (dm ds) k _)=_;rw[if_neg e,ih h];rfl
def Pm(ds:List Du)(k x:Int):Int:=match CQ ds k with
 |none=>11
 |some d=>pC d x
def VF(ds:List Du)(k x:Int):List Du:=if Pm ds k x=0 then Ib ds k x else ds
def payF(bx:Nat):Value := .func (.func 155) #[] #[ptr bx]
theorem Abb{bd b bx:Nat}{nx k x:Int}{o:Obj}{ds:List Du}(w:World)(hd:w.heap[bd]?=some (Bl 132 (DU b nx)))(hb:w.heap[b]?=some o)(hM:Df .u64 (dm ds) o)(hbd:bd≠b)(hf:CQ ds k=none) :
  Ret prog 113 #[ptr bd,.int .u64 k,payF bx] w fun v w'=>v=.int .i64 (Pm ds k x)/\∃o',Df .u64 (dm (VF ds k x)) o'/\Ctx w [b] w' [(b,o')]:=by
 obtain⟨w0,rfl⟩:=qD w;have H:=Ctx.start1 hb;have hc:Pm ds k x=11:=by unfold Pm;rw[hf]
 have hmg:Ea (dm ds) k=none:=by rw[Il,hf];rfl
 unfold VF;rw[hc,if_neg (by decide)];refine Au (fn:=f113) func113 U [.pointer (some ⟨bd,0,none⟩),.int .u64 k,.func (.func 155) #[] #[.pointer (some ⟨bx,0,none⟩)]] U ?_;refine Ae (Ad U (qA (Ax (Ae (A4 U (Cw LV U ?_))))));refine qA (Aw _ U ?_ ?_)
 .intro h0;cases h0
 .intro h0;refine Ay (Aa (Ae (A4 U (A9 U (Ah El U (Bb F3 U ((H.old (Aj hd _) (by rw[qab];exact hbd))) ?_))))));refine Af U (Hk U FT Dc Mp U U H at0 hM ?_);rw[hmg];rw[Option.getD_none,Option.isSome_none];refine Cr U (AH U U (AH U U (Bc DX H ?_)));rintro b7 w - H;refine Bn BV U U U (by exact Dx d00) H at0 U ?_;rintro w H;refine Ai U (qA (Ax (Ae (A2 U (BP U (qA (Aw _ U ?_ ?_)))))))
  .intro h1;replace h1:=BM h1;refine Ae (Ad U (qA (A5 (Av (AB (v:=(.int _ _)) U U U ?_)))));exact⟨rfl,o,hM,H.tail⟩
  .intro h1;replace h1:=BN h1;cases h1
theorem I9{ds:List Du}{k:Int}{d:Du}(h:CQ ds k=some d):d∈ds/\d.id=k:=by
 have h1:=List.mem_of_find?_eq_some h;have h2:=List.find?_some h;exact⟨h1,by simpa using h2⟩
theorem Af7(d:Du)(x:Int):pC d x=1\/pC d x=14\/pC d x=12\/(pC d x=0/\0<=x/\x<=d.am/\d.held=false):=by
 unfold pC
 split
 .exact .inl U
 .split
  .exact .inr (.inl U)
  .rename_i h2
   split
   .exact .inr (.inr (.inl U))
   .exact .inr (.inr (.inr ⟨rfl,by omega,by omega,by simpa using h2⟩))
theorem Abc{bd b bx:Nat}{nx k x:Int}{o:Obj}{ds:List Du}{d:Du}(w:World)(hd:w.heap[bd]?=some (Bl 132 (DU b nx)))(hb:w.heap[b]?=some o)(hM:Df .u64 (dm ds) o)(hbd:bd≠b)(hf:CQ ds k=some d)(hx:w.heap[bx]?=some (Bl 2 [.int .i64 x]))(hbx:bx≠b)(ham:0<=d.am/\d.am<=4503599627370496) :
  Ret prog 113 #[ptr bd,.int .u64 k,payF bx] w fun v w'=>v=.int .i64 (Pm ds k x)/\∃o',Df .u64 (dm (VF ds k x)) o'/\Ctx w [b] w' [(b,o')]:=by
 obtain⟨w0,rfl⟩:=qD w;have H:=Ctx.start1 hb;have hxl:=Bd hx;have hc:Pm ds k x=pC d x:=by unfold Pm;rw[hf]
 have hmg:Ea (dm ds) k=some (GG d):=by rw[Il,hf];rfl
 have hcs:=Af7 d x;unfold VF;rw[hc];obtain⟨code,hcode⟩:=qD (pC d x);obtain⟨e,he⟩:=qD (pD d x);have heam:code=0->e={ d with am:=d.am - x }:=fun h=>by rw[he];unfold pD;rw[if_pos (by omega)]
 rw[<-hcode]at hcs;rw[<-hcode];refine Au (fn:=f113) func113 U [.pointer (some ⟨bd,0,none⟩),.int .u64 k,.func (.func 155) #[] #[.pointer (some ⟨bx,0,none⟩)]] U ?_;refine Ae (Ad U (qA (Ax (Ae (A4 U (Cw LV U ?_))))));refine qA (Aw _ U ?_ ?_)
 .intro h0;cases h0
 .intro h0;refine Ay (Aa (Ae (A4 U (A9 U (Ah El U (Bb F3 U ((H.old (Aj hd _) (by rw[qab];exact hbd))) ?_))))));refine Af U (Hk U FT Dc Mp U U H at0 hM ?_);rw[hmg];rw[qef,Option.isSome_some];refine Cr U (AH U U (AH U U (Bc DX H ?_)));rintro b7 w - H;refine Bn BV U U U (by exact Dx _) H at0 U ?_;rintro w H;refine Ai U (qA (Ax (Ae (A2 U (BP U (qA (Aw _ U ?_ ?_)))))))
  .intro h1;replace h1:=BM h1;cases h1
  .intro h1;replace h1:=BN h1;refine Ay (Aa (Ae (C7 (.func _ _ _) U ?_)));have hb7:w0.heap.size<=b7:=(H.own _ (qak ..)).elim (fun h=>by have h8:=H.ne at0 at1 (by decide);exact absurd (qab.1 h) h8) id;refine G6 U qB (Akc (x:=x) (d:=d) _ (H.get at0) (H.ext.to hx (by rw[qab];exact hbx)) ham) U ?_;rintro v w ⟨rfl,H2⟩;replace H:=Ctx.back (L1:=[_]) (L2:=[_]) H H2;rw[<-hcode];rw[<-he]at H;refine Ad U (qA (Ax (A1 (Ae (Af U (CK U U (Ai U (qA (Aw _ U ?_ ?_)))))))))
   .intro h2;replace h2:=CY h2;refine Ay (A8 (Aa (Ae (Af U (Ad U (qA (A5 (AB (v:=(.int _ _)) U U U ?_))))))));rw[if_neg h2];exact⟨rfl,o,hM,H.tail⟩
   .intro h2;replace h2:=CZ h2;have h2':code=0:=by omega
    have hee:=heam h2';have hea:e.am=d.am - x:=by rw[hee]
    rw[if_pos h2'];refine Ae (Ah ER U (AG B4 U H at0 U (C3 U U (Ai U (qA (Aw _ U ?_ ?_))))))
    .intro h3;replace h3:=AM h3;refine A0 (A4 U (A9 U (Ah El U (Bb F3 U ((H.old (Aj hd _) (by rw[qab];exact hbd))) ?_))));refine Af U (NF U FT Dc U U H at1 hM ?_);rintro o2 w hM2 H;refine Ab (A8 (Aa (Ae (Af U (Ad U (qA (A5 (AB (v:=(.int _ _)) U U U ?_))))))));exact⟨rfl,o2,by rw[<-Af5 hf];exact hM2,H.tail⟩
    .intro h3;replace h3:=AN h3;refine Gm 6 Br U U ?_;refine BE U (AZ U (A6 El U (BX F3 U (by rintro _ rfl;exact((H.old (Aj hd _) (by rw[qab];exact hbd)))) ?_)));refine AX U (N8 U E4 BV U (by rintro _ rfl;exact H.drew) at0 U ?_);refine BS ?_;replace H:=H.drew;refine JH (GG e) U FT Dc U U U H at1 hM ?_;rintro o2 w hM2 H;refine Ab (A8 (Aa (Ae (Af U (Ad U (qA (A5 (AB (v:=(.int _ _)) U U U ?_))))))));exact⟨rfl,o2,by rw[<-Af6 hf (show ¬d.am=x by omega),<-hee];exact hM2,H.tail⟩
theorem Af8{bd b bx:Nat}{nx k x:Int}{o:Obj}{ds:List Du}(w:World)(hd:w.heap[bd]?=some (Bl 132 (DU b nx)))(hb:w.heap[b]?=some o)(hM:Df .u64 (dm ds) o)(hbd:bd≠b)(hx:w.heap[bx]?=some (Bl 2 [.int .i64 x]))(ham:∀d∈ds,0<=d.am/\d.am<=4503599627370496)(hbx:bx≠b:=by omega):
  Ret prog 113 #[ptr bd,.int .u64 k,payF bx] w fun v w'=>v=.int .i64 (Pm ds k x)/\∃o',Df .u64 (dm (VF ds k x)) o'/\Ctx w [b] w' [(b,o')]:=by
 cases hf:CQ ds k with
 |none=>exact Abb w hd hb hM hbd hf
 |some d=>exact Abc w hd hb hM hbd hf hx hbx (ham d (I9 hf).1)
theorem Akd{bd b:Nat}{nx k x:Int}{o:Obj}{ds:List Du}(w:World)(hd:w.heap[bd]?=some (Bl 132 (DU b nx)))(hb:w.heap[b]?=some o)(hM:Df .u64 (dm ds) o)(hbd:bd≠b)(ham:∀d∈ds,0<=d.am/\d.am<=4503599627370496) :
  Ret prog 121 #[ptr bd,.int .u64 k,.int .i64 x] w fun v w'=>v=.int .i64 (Pm ds k x)/\∃o',Df .u64 (dm (VF ds k x)) o'/\Ctx w [b] w' [(b,o')]:=by
 obtain⟨w0,rfl,H⟩:=qE w;have hbl:=Bd hb;refine Au (fn:=f121) func121 U [.pointer (some ⟨bd,0,none⟩),.int .u64 k,.int .i64 x] U ?_;refine Ae (Bu _ (.int _ _) U U H ?_);rintro b5 w - H;refine Ad U (qA (Ae (A4 U (Af U (Cq [.pointer _] U ?_)))));have hb5:w0.heap.size<=b5:=(H.own _ (qak ..)).elim (fun h=>by cases h) id;refine Al qB (Af8 (x:=x) _ (H.ext.to hd (by simp)) (H.ext.to hb (by simp)) hM hbd (H.get at0) ham) U ?_;rintro v w ⟨rfl,o',hM',H2⟩;refine Ad U (qA (A5 (AB (v:=(.int _ _)) U U U ?_)));have H3:=H.ext.mono (S':=[b]) (by simp);exact⟨rfl,o',hM',⟨H3.trans H2.ext,H2.blk,H2.nd,fun y hy=>by rw[qab.1 hy];exact .inl (qab.2 rfl)⟩⟩
structure PlD(ds:List Du)(k:Int)(i:Nat)(d:Du):Prop where
 at':ds[i]?=some d
 id:d.id=k
 fst:∀(j:Nat) (e:Du),j<i->ds[j]?=some e->e.id≠k
theorem PlD.pay{ds:List Du}{k x:Int}{i:Nat}{d:Du}(h:PlD ds k i d):Ib ds k x=if d.am=x then ds.eraseIdx i else ds.set i { d with am:=d.am - x }:=by
 induction ds generalizing i with
 |nil=>have:=h.at';cases this
 |cons y ds ih =>
  unfold Ib
  cases i with
  |zero =>
   have h1:=h.at'
   injection h1 with h1
   rw[h1,if_pos h.id];rfl
  |succ i =>
   have h1:=h.fst 0 y (Nat.succ_pos _) rfl;rw[if_neg h1,ih ⟨h.at',h.id,fun j e hj he=>h.fst (j+1) e (Nat.succ_lt_succ hj) he⟩]
   split <;> rfl
theorem Abd(a:Option Addr)(n c:Nat)(ds:List Du)(w:World)(R:Rd w a 7 Dn ds)(hn:ds.length=n)(hm:n<=1000000000:=by omega):
  Ret prog 158 #[.slice a n c] w fun v w'=>Fresh w w' 118 7 v (ds.flatMap Dn):=by
 subst hn;obtain⟨w0,rfl,H⟩:=qE w;refine Au (fn:=f158) func158 U [.slice a ds.length c] U (Ae (Am U (qA (Ax (Ae (Ap U (Ih U D9 U (qA (Aw _ U ?_ ?_)))))))))
 .intro h1;have ha:a=none:=by simpa using h1
  subst ha
  have hxs:ds=[]:=by
   cases ds with
   |nil=>rfl
   |cons x xs=>obtain⟨b,o,h⟩:=R.some' (by simp);cases h
  subst hxs;refine Ae (Am U (qA (A5 (Av (AB (v:=(.slice _ _ _)) U U U ?_)))));exact Fresh.nil H _ _
 .intro h1;refine Ay (Aa (Ae (GQ D9 BV H ?_)));rintro b5 w H O;refine Ap U (GO U D9 D9 BV Xi DX U (ds.flatMap Dn) U U H O (QN ds) (Aba ds) ((R.ext0 H.ext).app (fun _ _=>rfl) (by omega)) ?_);rintro a7 c7 full7 w H O;refine Am U (qA (A5 (AB (v:=(.slice _ _ _)) U U U ?_)));exact H.fresh O
theorem VG(d:Du)(w:World):Ret prog 159 #[GG d] w fun v w'=>v=.bool d.held/\Ext [] w w':=by
 obtain⟨w0,rfl,H⟩:=qE w;refine Au (fn:=f159) func159 U [GG d] U (Ae (Bu (Dn d) (.agg _) U U H ?_));rintro b1 w - H;refine Ai U (qA (Ae (Ah KO U (AG LI U H at0 U (Ai U (qA (A5 (AB (v:=(.bool _)) U U U ?_))))))));exact⟨rfl,H.ext⟩
abbrev Amo:Value := .func (.func 159) #[] #[]
structure FstH(ds:List Du)(i:Nat):Prop where
 at':∃d,ds[i]?=some d/\d.held=true
 fst:∀(j:Nat) (e:Du),j<i->ds[j]?=some e->e.held=false
theorem Ake(a:Option Addr)(n c:Nat)(ds:List Du)(w:World)(R:Rd w a 7 Dn ds)(hn:ds.length=n)(hn2:n<=1000000) :
  Ret prog 180 #[.slice a n c,Amo] w fun v w'=>Ext [] w w'/\((v=.int .i64 (-1)/\∀d∈ds,d.held=false)\/∃i:Nat,v=.int .i64 (i:Int)/\FstH ds i):=by
 subst hn;obtain⟨w0,rfl,H⟩:=qE w;refine Au (fn:=f180) func180 U [.slice a ds.length c,.func (.func 159) #[] #[]] U (Ae (Ad U (qA (Ax (Ae (Ap U (Be D9 U (Af U (qA (A1 ?_))))))))));refine Bw 524080 (α:=Nat) (fun i=>[(8,.int .i64 (i:Int))]) (fun i w'=>i<=ds.length/\Ctx w0 [] w' []/\∀(j:Nat) (e:Du),j<i->ds[j]?=some e->e.held=false) (fun i=>ds.length - i) 0 U ?_ ?_ ?_
 .exact⟨rfl,trivial⟩
 .exact⟨qaq _,H,fun j e h=>absurd h (qbd _)⟩
 .clear H;rintro i j w ⟨hi,H,hb⟩;refine Ae (Bm U U (qA (Ax (Aw _ U ?_ ?_))))
  .intro h1;replace h1:=AM h1;obtain⟨d,hd2⟩:=AE (l:=ds) (i:=i);refine Ay (Aa (Ax (A1 (Ae (Af U (Ad U (qA (Ae (C7 (.func _ _ _) U ?_)))))))));refine Ap U (Af U (Bg R D9 BV U U (by rfl) ?_));refine C9 _ E4 BV U U ((R.ext0 H.ext).row hd2 U) (G6 U qB (VG d _) U ?_);rintro v w ⟨rfl,hx16⟩;replace H:=H.call hx16;refine qA (Aw _ U ?_ ?_)
   .intro h2;refine Ae (Af U (Ad U (qA (A5 (AF (Av (Av (AF (Av (AB (v:=(.int _ _)) U U U ?_))))))))));exact⟨H.ext,.inr ⟨i,rfl,⟨d,hd2,h2⟩,hb⟩⟩
   .intro h2;refine Ay (A8 (Aa (A0 (Az U U ?_))));refine Af U (qA ?_);refine⟨i+1,rfl,⟨rfl,trivial⟩,⟨by omega,H,fun j e hj he=>?_⟩,by omega⟩
    rcases qap j i with h7|h7
    .exact hb j e h7 he
    .obtain rfl:j=i:=by omega
     rw[hd2]at he;cases he;exact h2
  .intro h1;replace h1:=AN h1;refine Bt (An (An (AK (Aa (Ae (Ad U (qA (A5 (AB (v:=(.int _ _)) U U U ?_)))))))));refine⟨H.ext,.inl ⟨rfl,fun d hd=>?_⟩⟩;obtain⟨j,hj⟩:=qby.1 hd;exact hb j d (by have:=CD hj;omega) hj
def opn(ds:List Du):List Du:=ds.filter fun d => !d.held
theorem SP:∀(vs l:List Value) (o k:Nat),k<=o->(over l o vs).take k=l.take k
 | [],_,_,_,_=>rfl
 |v::vs,l,o,k,h=>by
  show(over (l.set o v) (o+1) vs).take k=_;rw[SP vs (l.set o v) (o+1) k (by omega)];refine qci fun j=>?_;rw[qb5,qb5]
  split
  .rw[qb8 (by omega)]
  .rfl
theorem OS.shrink{α:Type}{a:Option Addr}{n c s i:Nat}{full vs:List Value}{enc:α->List Value}{L:List α}{o:Nat}(O:OS a n c s full (L.flatMap enc))(hs:∀x∈L,(enc x).length=s)(hi:i<=n)(hL:L.length=n)(ho:vs=[]\/i*s<=o):OS a i c s (Go.GV.over full o vs) ((L.take i).flatMap enc):=by
 refine⟨O.zero,O.none',by rw[DF];exact O.len,qa6 hi O.le,?_⟩
 have h1:(Go.GV.over full o vs).take (i*s)=full.take (i*s):=by
  rcases ho with rfl|ho
  .rfl
  .exact SP _ _ _ _ ho
 rw[h1]
 have h2:full.take (i*s)=(full.take (n*s)).take (i*s):=by
  rw[List.take_take,qcg (qcc _ hi)]
 rw[h2,O.pre];have h3:L.flatMap enc=(L.take i).flatMap enc++(L.drop i).flatMap enc:=by rw[<-qbt,qbq]
 have h4:((L.take i).flatMap enc).length=i*s:=by
  rw[Fi fun z hz=>hs z (qea hz),qbb,qcg (by omega)]
 rw[h3];exact qch h4
theorem QO(ds:List Du)(d:Du):opn (ds++[d])=opn ds++if d.held=true then[]else[d]:=by
 unfold opn;rw[qcp];cases h:d.held <;> simp[h]
theorem Zd{ds:List Du}(h:∀d∈ds,d.held=false):opn ds=ds:=by
 unfold opn;rw[List.filter_eq_self];intro d hd;rw[h d hd];rfl
structure DSt where
 i:Nat
 j:Nat
 L:List Du
 full:List Value
theorem Aqp(a:Option Addr)(c:Nat)(full:List Value)(ds:List Du)(w:World)(O:OS a ds.length c 7 full (ds.flatMap Dn))(hb:∀y∈ent a 118 full,w.heap[y.1]?=some y.2)(hn2:ds.length<=1000000) :
  Ret prog 157 #[.slice a ds.length c,Amo] w fun v w'=>∃full',v=.slice a (opn ds).length c/\OS a (opn ds).length c 7 full' ((opn ds).flatMap Dn)/\Ctx w ((ent a 118 full).map (·.1)) w' (ent a 118 full'):=by
 obtain⟨w0,rfl⟩:=qD w;have R:Rd w0 a 7 Dn ds:=OS.rd O hb (fun _ _=>rfl) (by omega);have H:Ctx w0 ((ent a 118 full).map (·.1)) w0 (ent a 118 full):=⟨Ext.refl _ _,hb,Fu,fun x hx => .inl (qa4 (f:=(·.1)) hx)⟩;refine Au (fn:=f157) func157 U [.slice a ds.length c,.func (.func 159) #[] #[]] U (Ae (Am U (qA (Ae (Ap U (C7 (.func _ _ _) U ?_))))));refine Al qB (Ake a ds.length c ds _ R U hn2) U ?_;rintro v w ⟨hx10,hidx⟩;replace H:=H.call hx10;obtain⟨pi,rfl,hpi⟩:∃pi:Int,v=.int .i64 pi/\((pi = -1/\∀d∈ds,d.held=false)\/∃i:Nat,pi=(i:Int)/\FstH ds i):=hidx.elim (fun h=>⟨-1,h.1,.inl ⟨rfl,h.2⟩⟩) (fun⟨i,h1,h2⟩=>⟨i,h1,.inr ⟨i,rfl,h2⟩⟩);refine Ad U (qA (Ax (Ae (Af U (C3 U U (qA (Aw _ U ?_ ?_)))))))
 .intro h1;replace h1:=AM h1;refine Ae (Ap U (Am U (qA (A5 (Av (AB (v:=(.slice _ _ _)) U U U ?_))))));have hal:∀d∈ds,d.held=false:=hpi.elim (fun h=>h.2) fun⟨i,h,_⟩=>by omega
  rw[Zd hal];exact⟨full,rfl,O,H⟩
 .intro h1;replace h1:=AN h1;obtain⟨i,hpe,P⟩:∃i:Nat,pi=(i:Int)/\FstH ds i:=hpi.elim (fun h=>absurd h.1 h1) id;subst hpe;obtain⟨d0,hd0,hh0⟩:=P.at';have hil:=CD hd0;obtain⟨q,rfl⟩:=O.form (by omega);replace H:Ctx w0 [q] w [(q,Bl 118 full)]:=H
  have hop0:opn (ds.take i)=ds.take i:=Zd fun d hd=>by
   obtain⟨j,hj⟩:=qby.1 hd;rw[qb5]at hj
   split at hj
   .exact P.fst j d (by assumption) hj
   .cases hj
  have hst0:opn (ds.take (i+1))=ds.take i:=by
   rw[qb6,hd0];show opn (ds.take i++[d0])=_;rw[QO,if_pos hh0,hop0,qa0]
  refine Ay (Aa (Ax (Ae (Af U (Az U U ?_)))));refine Ad U (qA (A1 (Bw 68719411424 (α:=DSt) (fun t=>[(5,.int .i64 (t.i:Int)),(6,.int .i64 (t.j:Int))]) (fun t w'=>t.i<t.j/\t.j<=ds.length/\t.L.length=ds.length/\t.L.take t.i=opn (ds.take t.j)/\(∀p,t.j<=p->t.L[p]?=ds[p]?)/\OS (some ⟨q,0,none⟩) ds.length c 7 t.full (t.L.flatMap Dn)/\Ctx w0 [q] w' [(q,Bl 118 t.full)]) (fun t=>ds.length - t.j) ⟨i,i+1,ds,full⟩ U ?_ ?_ ?_)))
  .exact⟨rfl,rfl,trivial⟩
  .exact⟨Nat.lt_succ_self _,by dsimp only;omega,rfl,hst0.symm,fun p _=>rfl,O,H⟩
  .clear H;rintro⟨i,j,L,fu⟩ jj w ⟨hij,hj,hL,hT,hS,O1,H⟩;dsimp only at hij hj hL hT hS O1 H;dsimp only;have hOl:=O1.len;have hOle:=O1.le;refine Ax (Ae (Af U (Ap U (Be D9 U (Bm U U (qA (Aw _ U ?_ ?_)))))))
   .intro h2;replace h2:=AM h2;obtain⟨d,hdj⟩:=AE (l:=ds) (i:=j);have hLd:L[j]?=some d:=by rw[hS j (qam _),hdj]
    have R1:Rd w (some ⟨q,0,none⟩) 7 Dn L:=O1.rd (t:=118) (fun y hy=>by have hy:=qab.1 hy;rw[hy];exact H.get at0) (fun _ _=>rfl) (by decide);have htk:ds.take (j+1)=ds.take j++[d]:=by rw[qb6,hdj];rfl
    refine Ay (Aa (Ax (A1 (Ae (Ap U (Af U (Bg R1 D9 BV U U (by omega) ?_)))))));refine C9 _ E4 BV U U (R1.row hLd U) (Bc DX H ?_);rintro b7 w - H;refine Bn BV U U U (by exact Dx _) H at0 U ?_;rintro w H;refine qA (Ae (C7 (.func _ _ _) U ?_));refine Cg E4 BV U H at0 U (G6 U qB (VG d _) U ?_);rintro v w ⟨rfl,hx28⟩;replace H:=H.call hx28;refine BP U (qA (Aw _ U ?_ ?_))
    .intro h3;replace h3:=BM h3;have h3':¬d.held=true:=by simpa using h3
     obtain⟨y,hy⟩:=AE (l:=L) (i:=i);have O2:=OS.over O1 (fun _=>rfl) hy d;refine Ae (Ap U (Af U (Cg E4 BV U H at0 U (Bg R1 D9 BV U U (by omega) ?_))));refine HX (vs:=Dn d) U BV U U U (Dx d) H at1 (by show 0+(i:Int).toNat*7+7<=_;omega) ?_;rintro w H;replace H:Ctx w0 [q] w [(b7,Bl 118 (Dn d)),(q,Bl 118 (over fu (i*7) (Dn d)))]:=by rw[show i*7=0+((i:Int)).toNat*7 by omega];exact H
     refine qA (A0 (Af U (Az U U ?_)));refine Ad U (Ab (A8 (Aa (A0 (Af U (Az U U ?_))))));refine Ad U (qA ?_);refine⟨⟨i+1,j+1,L.set i d,over fu (i*7) (Dn d)⟩,rfl,⟨rfl,rfl,trivial⟩,⟨by dsimp only;omega,by dsimp only;omega,by dsimp only;rw[qco];exact hL,?_,fun p hp=>?_,O2,?_⟩,by dsimp only;omega⟩
     .dsimp only;rw[htk,QO,if_neg h3',<-hT,qb6,qdw (by omega)]
      congr 1
      refine qci fun z=>?_;rw[qb5,qb5]
      split
      .rw[qb8 (by omega)]
      .rfl
     .dsimp only at hp |-;rw[qb8 (by omega)];exact hS p (by omega)
     .exact H.tail
    .intro h3;replace h3:=BN h3;have h3':d.held=true:=by simpa using h3
     refine Ay (A8 (Aa (A0 (Af U (Az U U ?_)))));refine Ad U (qA ?_);refine⟨⟨i,j+1,L,fu⟩,rfl,⟨rfl,rfl,trivial⟩,⟨by dsimp only;omega,by dsimp only;omega,hL,?_,fun p hp=>hS p (by dsimp only at hp;omega),O1,H.tail⟩,by dsimp only;omega⟩;dsimp only;rw[htk,QO,if_pos h3',qa0];exact hT
   .intro h2;replace h2:=AN h2;obtain rfl:j=ds.length:=by omega
    rw[qbm]at hT;have hlen:(opn ds).length=i:=by rw[<-hT,qbb];omega
    obtain⟨o',ho',ho2⟩:∃o',MG (some ⟨q,0,none⟩) c i 7=some ⟨q,o',none⟩/\((c=i/\o'=0)\/o'=i*7):=by
     unfold MG
     by_cases h:c=i
     .rw[if_pos h];exact⟨0,rfl,.inl ⟨h,rfl⟩⟩
     .rw[if_neg h];exact⟨0+i*7,(by show some (Addr.add _ _)=_;rw[add_none]),.inr (qaz _)⟩
    refine Bt (An (An (AK (Aa (Ae (Ap U (Af U (Ow U D9 BV U U ?_))))))));refine Sj (b:=q) (o:=o') (n:=ds.length - i) (c:=c - i) (s:=7) U D9 DX U (by simp[AY]) (show Value.slice (MG (some ⟨q,0,none⟩) c i 7) (ds.length - i) (c - i)=_ by rw[ho']) H at0 (by omega) ?_;rintro w H;refine qA (Ae (Ap U (Af U (KD U D9 BV U U ?_))));refine Am U (qA (A5 (AB (v:=(.slice _ _ _)) U U U ?_)));have O3:=OS.shrink (i:=i) (o:=o') (vs:=(List.replicate (ds.length - i) [Value.int .u64 0,.int .i64 0,.int .i64 0,.int .i64 0,.int .i64 0,.int .i64 0,.bool false]).flatten) O1 (fun _ _=>rfl) (by omega) hL (ho2.elim (fun h=>by omega) fun h => .inr (by omega));rw[hT]at O3;rw[hlen];exact⟨_,rfl,O3,H⟩
theorem Ze(a:Option Addr)(n c:Nat)(ds:List Du)(w:World)(R:Rd w a 7 Dn ds)(hn:ds.length=n)(hm:n<=1000000) :
  Ret prog 124 #[.slice a n c] w fun v w'=>Fresh w w' 118 7 v ((opn ds).flatMap Dn):=by
 subst hn;obtain⟨w0,rfl⟩:=qD w;refine Au (fn:=f124) func124 U [.slice a ds.length c] U (Ae (Am U (qA (Ae (Ap U (Al qB (Abd a ds.length c ds _ R U) U ?_))))));rintro v w F;obtain⟨a4,n4,c4,f4,rfl,O4,hb4⟩:=F.ex;have hl4:=O4.llen;rw[QN]at hl4;obtain rfl:ds.length=n4:=by omega
 refine Al qB (Aqp a4 c4 f4 ds _ O4 (fun y hy=>(hb4 y hy).1) hm) U ?_;rintro v w ⟨f5,rfl,O5,H5⟩;refine Am U (qA (A5 (AB (v:=(.slice _ _ _)) U U U ?_)));refine⟨⟨_,_,_,f5,rfl,O5,fun x hx=>⟨H5.blk x hx,?_⟩⟩,F.ext.then H5.ext fun x hx=>?_⟩
 .rcases H5.own x hx with h|h
  .obtain⟨y,hy,hyx⟩:=qah.1 h;rw[<-hyx];exact(hb4 y hy).2
  .exact qa6 F.ext.size h
 .obtain⟨y,hy,rfl⟩:=qah.1 hx;exact .inr (hb4 y hy).2
def EW:Nat->List Du->List Du
 |_,[]=>[]
 |i,d::ds=>{ d with id:=(i:Int)+1 }::EW (i+1) ds
theorem SQ(i:Nat)(ds:List Du):(EW i ds).length=ds.length:=by
 induction ds generalizing i with
 |nil=>rfl
 |cons d ds ih=>show(EW (i+1) ds).length+1=ds.length+1;rw[ih]
theorem Um(i:Nat)(ds es:List Du):EW i (ds++es)=EW i ds++EW (i+ds.length) es:=by
 induction ds generalizing i with
 |nil=>rfl
 |cons d ds ih =>
  show _::EW (i+1) (ds++es)=_::(EW (i+1) ds++EW (i+(ds.length+1)) es);rw[ih,show i+1+ds.length=i+(ds.length+1)by omega]
theorem XI{ds:List Du}{i:Nat}{d:Du}(h:ds[i]?=some d):EW 0 (ds.take (i+1))=EW 0 (ds.take i)++[{ d with id:=(i:Int)+1 }]:=by
 have hl:=CD h;rw[qb6,h];show EW 0 (ds.take i++[d])=_;rw[Um,qbb,qcg (by omega),qaz];rfl
theorem Af9{ds:List Du}:∀(i:Nat) (d:Du),d∈EW i ds->(i:Int)<d.id/\d.id<=i+ds.length:=by
 induction ds with
 |nil=>intro i d h;cases h
 |cons x ds ih =>
  intro i d h
  rcases qai.1 h with rfl|h
  .dsimp only[List.length_cons];omega
  .have:=ih (i+1) d h;rw[qa9];omega
theorem Abe{ds:List Du}:∀(i:Nat),Gf ((i:Int)+ds.length+1) i (EW i ds)=ds.all E7:=by
 induction ds with
 |nil=>intro i;rfl
 |cons d ds ih =>
  intro i;have h:=ih (i+1);show((E7 d && (decide ((i:Int)<(i:Int)+1) && decide ((i:Int)+1<_))) && Gf _ ((i:Int)+1) (EW (i+1) ds))=(E7 d && ds.all E7);rw[<-h,qan (show(i:Int)<(i:Int)+1 by omega),qan (show(i:Int)+1<(i:Int)+((d::ds).length:Nat)+1 by rw[qa9];omega),show((i:Int)+((d::ds).length:Nat)+1)=(((i+1:Nat):Int)+ds.length+1)by rw[qa9];omega];simp
def DS(rs:List Int)(ds:List Du):Bool :=
 decide (rs.length<=16) && (!decide ((Fl rs).2=1) && (ds.all (fun d=>decide (max d.fr d.to<rs.length)) && decide (ofC (EW 0 ds) (ds.length+1)=0)))
theorem Abf{rs:List Int}{ds:List Du}{i:Nat}{d:Du}(hd:ds[i]?=some d)(h:¬max d.fr d.to<rs.length):DS rs ds=false:=by
 unfold DS
 have:ds.all (fun d=>decide (max d.fr d.to<rs.length))=false:=by
  rw[List.all_eq_false];exact⟨d,qac hd,by simpa using h⟩
 rw[this];simp
theorem Abg(a b:Option Addr)(n c m e:Nat)(rs:List Int)(ds:List Du)(w:World)(R:Rd w a 1 I1 rs)(hn:rs.length=n)(hn2:n<=1000000)(Rd':Rd w b 7 Dn ds)(hm:ds.length=m)(hm2:m<=1000000) :
  Ret prog 140 #[.slice a n c,.slice b m e] w fun v w'=>v=.bool (DS rs ds)/\Ext [] w w':=by
 subst hn hm;obtain⟨w0,rfl,H⟩:=qE w;obtain⟨tt,htt⟩:=qD (Fl rs);refine Au (fn:=f140) func140 U [.slice a rs.length c,.slice b ds.length e] U (Ae (Ai U (qA (Ax (Ae (Ap U (Be Bf U (C8 U U (qA (Aw _ U ?_ ?_))))))))))
 .intro h1;replace h1:=AM h1;refine Ae (Ai U (qA (A5 (Av (AB (v:=(.bool _)) U U U ?_)))));exact⟨qaa Value.bool (by unfold DS;rw[qa2 (show ¬rs.length<=16 by omega)];rfl),H.ext⟩
 .intro h1;replace h1:=AN h1;have h1':decide (rs.length<=16)=true:=qan (by omega);refine Ay (Aa (Ax (Ae (Ap U (Al qB (Ng a rs.length c rs _ R U (hn2:=hn2)) U ?_)))));rintro v w ⟨rfl,rfl⟩;rw[<-htt];refine Cr U (AH U U (AH U U (Ad U (Ad U (qA (Ae (Af U (C3 U U (qA ?_)))))))));refine Aw _ U ?_ ?_
  .intro h2;replace h2:=AM h2;refine Ae (Ai U (qA (A5 (Av (AB (v:=(.bool _)) U U U ?_)))));exact⟨qaa Value.bool (by unfold DS;rw[<-htt,h2,h1'];rfl),H.ext⟩
  .intro h2;replace h2:=AN h2;refine Ay (Aa (Ae (Am U (qA (Ax (Ae (Ap U (Be D9 U (Af U (qA ?_))))))))));refine A1 (Bw 70368727401360 (α:=LSt) (fun t=>[(7,.slice t.a t.i t.c),(24,.int .i64 (t.i:Int))]) (fun t w'=>t.i<=ds.length/\OS t.a t.i t.c 7 t.full ((EW 0 (ds.take t.i)).flatMap Dn)/\Ctx w0 [] w' (ent t.a 118 t.full)/\∀(j:Nat) (d:Du),j<t.i->ds[j]?=some d->max d.fr d.to<rs.length) (fun t=>ds.length - t.i) ⟨0,none,0,[]⟩ U ?_ ?_ ?_)
   .exact⟨rfl,rfl,trivial⟩
   .exact⟨qaq _,OS.nil,H,fun j d h=>absurd h (qbd _)⟩
   .clear H;rintro⟨i,a2,c2,full⟩ jj w ⟨hi,O,H,hb⟩;dsimp only at hi O H hb;dsimp only;refine Ae (Bm U U (qA (Ax (Aw _ U ?_ ?_))))
    .intro h3;replace h3:=AM h3;obtain⟨d,hd⟩:=AE (l:=ds) (i:=i);obtain⟨d',hd'⟩:∃d':Du,d'={ d with id:=(i:Int)+1 }:=⟨_,rfl⟩;refine Ay (Aa (Ax (A1 (Ae (Af U (Bg Rd' D9 BV U U (by rfl) ?_))))));refine C9 _ E4 BV U U ((Rd'.ext0 H.ext).row hd U) (Bc DX H ?_);rintro b9 w - H;refine Ad U (Bn BV U U U (by exact Dx _) H at0 U ?_);rintro w H;refine qA (Ax (Ae (Ah It U (AG Cc U H at0 U (Ah Iu U (AG Cc U H at0 U (MF U U U ?_)))))));refine Ap U (Be Bf U (CM U U (qA (Aw _ U ?_ ?_))))
     .intro h4;replace h4:=AM h4;refine Ae (Ai U (qA (A5 (Av (AF (Av (Av (AF (Av (AB (v:=(.bool _)) U U U ?_))))))))));exact⟨qaa Value.bool (Abf hd (show ¬max d.fr d.to<rs.length by omega)).symm,H.ext⟩
     .intro h4;replace h4:=AN h4;refine Ay (Aa (Ae (Af U (D5 U Ho Dc ?_))));refine EI U U (Ah FX U (Cb (.int _ _) Bq U U U H at0 (by(simp;done)) ?_));rintro w H;refine qA ?_;replace H:Ctx w0 [] w ((b9,Bl 118 (Dn d'))::ent a2 118 full):=by rw[hd'];exact H
      refine A0 (Ap U (Cg E4 BV U H at0 U (Cp _ (.agg _) D9 BV DX U U U U H ?_)));rintro b43 w - H;refine Cy (L:=[_]) D9 D9 BV Xi DX U U U H O U (by simp[AY]) ?_;rintro a' c' full' w H O;refine Am U (Ab (A8 (Aa (A0 (Az U U ?_)))));refine Af U (qA ?_);refine⟨⟨i+1,a',c',full'⟩,rfl,⟨rfl,rfl,trivial⟩,⟨by dsimp only;omega,?_,H.tail,fun j x hj hx=>?_⟩,by dsimp only;omega⟩
      .dsimp only;rw[XI hd,<-hd',qbt];exact O
      .rcases qap j i with h7|h7
       .exact hb j x h7 hx
       .obtain rfl:j=i:=by dsimp only at hj;omega
        rw[hd]at hx;cases hx;omega
    .intro h3;replace h3:=AN h3;obtain rfl:i=ds.length:=by omega
     rw[qbm]at O
     have hal:ds.all (fun d=>decide (max d.fr d.to<rs.length))=true:=by
      rw[qaw];intro d hd;obtain⟨j,hj⟩:=qby.1 hd;exact qan (hb j d (CD hj) hj)
     have RO:Rd w a2 7 Dn (EW 0 ds):=OS.rd O (fun y hy=>H.blk y hy) (fun _ _=>rfl) (by omega)
     have hbr:DS rs ds=decide (ofC (EW 0 ds) (ds.length+1)=0):=by
      unfold DS;rw[h1',hal,<-htt,qa2 h2];rfl
     obtain⟨cd,hcd⟩:=qD (ofC (EW 0 ds) (ds.length+1));rw[hbr,<-hcd];refine Bt (An (An (AK (Aa (Ae (Ap U (Ap U (Be D9 U (D5 U Ho Dc ?_)))))))));refine EI U U (Al qB (Aql a2 ds.length c2 (EW 0 ds) (ds.length+1) _ RO (SQ 0 ds) (fun d hd=>by have:=Af9 0 d hd;omega)) U ?_);rintro v w ⟨p,rfl,hp1,hp2,hx52⟩;obtain⟨pp,rfl⟩:∃pp,p=.pointer pp:=by by_cases hz:ofC (EW 0 ds) (ds.length+1)=0;(obtain⟨bd,_,_,e1,_⟩:=hp2 hz;exact⟨_,e1⟩);exact⟨none,hp1 hz⟩
     replace H:=H.call hx52;rw[<-hcd];refine Cr U (AH U U (AH U U (Cn U (Ad U (qA (Ae (Af U (C3 U U (Ai U ?_)))))))));refine qA (A5 (AB (v:=(.bool _)) U U U ?_));exact⟨rfl,H.ext⟩
def Mx(d:Du):Ed:=⟨d.fr,d.to,d.am,-d.we⟩
def NT(rs:List Int):List Ed:=(List.range (2*rs.length)).map fun j=>if j % 2=0 then⟨rs.length,(j / 2:Nat),rs.getD (j / 2) 0,0⟩else⟨(j / 2:Nat),rs.length,4503599627370496,0⟩
def BO(rs:List Int)(ds:List Du)(net:Bool):List Ed:=ds.map Mx++if net=true then[]else NT rs
theorem Nl{rs:List Int}{i:Nat}{x:Int}(h:rs[i]?=some x):(NT rs)[2*i]?=some ⟨rs.length,i,x,0⟩:=by
 have hl:=CD h;unfold NT;rw[Ec (by omega),if_pos (by omega),show 2*i / 2=i by omega,Bv h]
theorem P7{rs:List Int}{i:Nat}(h:i<rs.length):(NT rs)[2*i+1]?=some ⟨i,rs.length,4503599627370496,0⟩:=by
 unfold NT;rw[Ec (by omega),if_neg (by omega),show(2*i+1) / 2=i by omega]
theorem Zf(rs:List Int):(NT rs).length=2*rs.length:=by unfold NT;simp
def edV(e:Ed):List Value:=[.agg (CO e).toArray]
structure RndK(b1 b2 b3:Nat)(a b:Option Addr)(n c m e:Nat)(rs:List Int)(ds:List Du)(net:Bool)(w:World):Prop where
 h1:w.heap[b1]?=some (Bl 38 [.slice b m e])
 h2:w.heap[b2]?=some (Bl 4 [.bool net])
 h3:w.heap[b3]?=some (Bl 31 [.slice a n c])
 R:Rd w a 1 I1 rs
 Rd':Rd w b 7 Dn ds
theorem XJ{b1 b2 b3:Nat}{a b:Option Addr}{n c m e:Nat}{rs:List Int}{ds:List Du}{net:Bool}(hn:rs.length=n)(hm:ds.length=m)(hn2:n<=1000000)(hw:∀d∈ds,-1000000000<=d.we/\d.we<=1000000000)(hm2:m<=1000000:=by omega):
  TE prog 165 #[ptr b1,ptr b2,ptr b3] [] (fun _ w=>RndK b1 b2 b3 a b n c m e rs ds net w) ((BO rs ds net).map edV):=by
 subst hn hm;intro l w J E hJ0 hJs hEs hK hY;obtain⟨M0,hJ0⟩:=hJ0;obtain⟨w0,rfl⟩:=qD w
 have hat1:∀(i:Nat) (d:Du),ds[i]?=some d->((BO rs ds net).map edV)[i]?=some (edV (Mx d)):=fun i d hd=>by
  unfold BO;have hl:=CD hd;rw[qa1,qcb (by rw[qal];exact hl),qa1,hd];rfl
 have hat2:net=false->∀(j:Nat) (x:Ed),(NT rs)[j]?=some x->((BO rs ds net).map edV)[ds.length+j]?=some (edV x):=fun h0 j x hx=>by
  unfold BO;rw[h0,qa1,qbv (by rw[qal];omega),qal,show ds.length+j - ds.length=j by omega];show((NT rs)[j]?).map edV=_;rw[hx];rfl
 have hlen:((BO rs ds net).map edV).length=ds.length+if net=true then 0 else 2*rs.length:=by
  unfold BO;rw[qal,qat,qal]
  split
  .rfl
  .rw[Zf]
 refine Au (fn:=f165) func165 U [.func (.yield l) #[] #[],.pointer (some ⟨b1,0,none⟩),.pointer (some ⟨b2,0,none⟩),.pointer (some ⟨b3,0,none⟩)] U ?_;have K0:=(hK _ _ _ hJ0).2;have H:=Ctx.start w0 [];refine Ax (Ae (Bb Adg U ((by rw[Aj K0.h1];rfl)) ?_));refine Be D9 U (Af U (qA (A1 (Bw 1073737792 (α:=Nat) (fun i=>[(12,.int .i64 (i:Int))]) (fun i w'=>i<=ds.length/\∃M,J i M w') (fun i=>ds.length - i) 0 U ?_ ?_ ?_))))
 .exact⟨rfl,trivial⟩
 .exact⟨qaq _,M0,hJ0⟩
 .clear H;rintro i j w ⟨hi,M,hJ⟩;have KK:=(hK _ _ _ hJ).2;have R:=KK.Rd';obtain⟨w1,rfl,H⟩:=qE w;refine Ae (Bm U U (qA (Ax (Aw _ U ?_ ?_))))
  .intro h1;replace h1:=AM h1;obtain⟨d,hd⟩:=AE (l:=ds) (i:=i);have hwd:=hw d (qac hd);refine Ay (Aa (Ax (A1 (Ae (Bg R D9 BV U U (by rfl) ?_)))));refine C9 _ E4 BV U U ((R.ext0 H.ext).row hd U) (Bc DX H ?_);rintro b6 w - H;refine Bn BV U U U (by exact Dx _) H at0 U ?_;rintro w H;refine qA (Ae (C7 (.func _ _ _) U ?_));refine Ah It U (AG Cc U H at0 U (Ah Iu U (AG Cc U H at0 U (Ah ER U (AG B4 U H at0 U (Ah KN U (AG B4 U H at0 U (Me U U ?_))))))));refine BA (CO (Mx d)) Xu Gp ?_;have hY1:=hY i (edV (Mx d)) M _ (hat1 i d hd) (hJs _ _ _ _ hJ H.ext);refine Hl (vs:=edV (Mx d)) U hY1 U ?_;rintro u w hu
   obtain⟨bb,rfl,hu1,hu0⟩:∃bb,u=.bool bb/\(bb=true->∃M,J (i+1) M w)/\(bb=false->E w):=hu.elim (fun h=>⟨true,h.1,fun _=>let ⟨M',h1,_⟩:=h.2;⟨M',h1⟩,fun h=>by cases h⟩) (fun h=>⟨false,h.1,(fun h=>by cases h),fun _=>h.2⟩);refine BP U (qA (Aw _ U ?_ ?_))
   .intro h2;replace h2:=BM h2;refine A5 (AF (Av (Av (AF (Av (Gl U U ?_))))));exact .inr (hu0 (by simpa using h2))
   .intro h2;replace h2:=BN h2;refine Ay (A8 (Aa (A0 (Az U U ?_))));refine Af U (qA ?_);exact⟨i+1,rfl,⟨rfl,trivial⟩,⟨by omega,hu1 (by simpa using h2)⟩,by omega⟩
  .intro h1;replace h1:=AN h1;obtain rfl:i=ds.length:=by omega
   refine Bt (An (An (AK (Aa (Ax (Ae (Bb LI U ((H.old0 (by rw[Aj KK.h2];rfl))) ?_)))))));refine qA (Aw _ U ?_ ?_)
   .intro h2;refine A5 (Av (Gl U U ?_));exact .inl ⟨M,by rw[hlen,if_pos h2];exact hJ⟩
   .intro h2;refine Ay (Aa (Ae (Bb BU U ((H.old0 (by rw[Aj KK.h3];rfl))) ?_)));refine Be Bf U (Ad U (qA (Ae (Bb BU U ((H.old0 (by rw[Aj KK.h3];rfl))) ?_))));refine Be Bf U (Af U (qA (A1 (Bw 72057559678190336 (α:=Nat) (fun i=>[(35,.int .i64 (i:Int))]) (fun i w'=>i<=rs.length/\∃M,J (ds.length+2*i) M w') (fun i=>rs.length - i) 0 U ?_ ?_ ?_))))
    .exact⟨rfl,trivial⟩
    .exact⟨qaq _,M,hJ⟩
    .clear H;rintro i j2 w ⟨hi,M,hJ⟩;have KK:=(hK _ _ _ hJ).2;have R:=KK.R;obtain⟨w1,rfl,H⟩:=qE w;refine Ae (Bm U U (qA (Ax (Aw _ U ?_ ?_))))
     .intro h3;replace h3:=AM h3;obtain⟨x,hx⟩:=AE (l:=rs) (i:=i);refine Ay (Aa (Ax (A1 (Ae (Af U (Bg R Bf BD U U (by rfl) ?_))))));refine Bb B4 U (((R.ext0 H.ext).fld hx U (j:=0) U)) (Ad U (Ad U (qA (Ae (C7 (.func _ _ _) U ?_)))));refine Af U (Af U (Af U (BA (CO ⟨rs.length,i,x,0⟩) Xu Gp ?_)));have hY1:=hY _ (edV ⟨rs.length,i,x,0⟩) M _ (hat2 h2 _ _ (Nl hx)) (hJs _ _ _ _ hJ H.ext);refine Hl (vs:=edV ⟨rs.length,i,x,0⟩) U hY1 U ?_;rintro u w hu;clear H;obtain⟨bb,rfl,hu1,hu0⟩:∃bb,u=.bool bb/\(bb=true->∃M,J (ds.length+2*i+1) M w)/\(bb=false->E w):=hu.elim (fun h=>⟨true,h.1,fun _=>let ⟨M',h1,_⟩:=h.2;⟨M',h1⟩,fun h=>by cases h⟩) (fun h=>⟨false,h.1,(fun h=>by cases h),fun _=>h.2⟩);refine BP U (A2 U (AR 47 U ?_ ?_))
      .intro h4;replace h4:=BM h4;refine Ag U (Ag U (Ag U (Ag U (Ag U (Ag U (AA U (.bool _) U (qA (DB U (A5 (AF (Av (Av (AF (Gl U U ?_))))))))))))));exact .inr (hu0 (by simpa using h4))
      .intro h4;replace h4:=BN h4;refine C7 (.func _ _ _) U (Af U (Af U (BA (CO ⟨i,rs.length,4503599627370496,0⟩) Xu Gp ?_)));obtain⟨M2,hJ2⟩:∃M,J (ds.length+2*i+1) M w:=hu1 (by simp_all);have hY2:=hY _ (edV ⟨i,rs.length,4503599627370496,0⟩) M2 _ (hat2 h2 _ _ (P7 (by omega))) hJ2;refine Hl (vs:=edV ⟨i,rs.length,4503599627370496,0⟩) U hY2 U ?_;rintro u w hu;obtain⟨bb,rfl,hv1,hv0⟩:∃bb,u=.bool bb/\(bb=true->∃M,J (ds.length+2*i+1+1) M w)/\(bb=false->E w):=hu.elim (fun h=>⟨true,h.1,fun _=>let ⟨M',h1,_⟩:=h.2;⟨M',h1⟩,fun h=>by cases h⟩) (fun h=>⟨false,h.1,(fun h=>by cases h),fun _=>h.2⟩);refine BP U (AJ U (.bool _) U (qA (Aw _ U ?_ ?_)))
       .intro h5;replace h5:=BM h5;refine A5 (AF (Av (Av (AF (Gl U U ?_)))));exact .inr (hv0 (by simpa using h5))
       .intro h5;replace h5:=BN h5;refine Ay (A8 (Aa (A0 (Az U U ?_))));refine Af U (qA ?_);exact⟨i+1,rfl,⟨rfl,trivial⟩,⟨by omega,by rw[show ds.length+2*(i+1)=ds.length+2*i+1+1 by omega];exact hv1 (by simpa using h5)⟩,by omega⟩
     .intro h3;replace h3:=AN h3;refine Bt (An (An (AK (CV U U ?_))));obtain rfl:i=rs.length:=by omega
      exact .inl ⟨M,by rw[hlen,if_neg (by rw[h2];decide)];exact hJ⟩
abbrev U1(x:Int):List Value:=[GM x]
instance:DecidableEq Ed:=fun x y=>if h:x.f=y.f/\x.t=y.t/\x.cap=y.cap/\x.cost=y.cost then isTrue (by cases x;cases y;simp_all)else isFalse fun e=>h (by subst e;exact⟨rfl,rfl,rfl,rfl⟩)
theorem VH(x y:Ed):decide (x=y)=true↔CO x=CO y:=by
 obtain⟨a,b,c,d⟩:=x;obtain⟨a',b',c',d'⟩:=y;simp[CO]
theorem Aqq(a b:Option Addr)(n c m d:Nat)(xs ys:List Ed)(w:World)(R:Rd w a 4 CO xs)(hn:xs.length=n)(hn2:n<=1000000)(Ry:Rd w b 4 CO ys)(hm:ys.length=m)(hm2:m<=1000000) :
  Ret prog 153 #[.slice a n c,.slice b m d] w fun v w'=>v=.bool (decide (xs=ys))/\Ext [] w w':=by
 subst hn hm;obtain⟨w0,rfl,H⟩:=qE w;refine Au (fn:=f153) func153 U [.slice a xs.length c,.slice b ys.length d] U (Ae (Ai U (qA (Ax (Ae (Ap U (Be CF U (Ap U (Be CF U (CK U U ?_))))))))));refine qA (Aw _ U ?_ ?_)
 .intro h1;replace h1:=CY h1;refine Ae (Ai U (qA (A5 (Av (AB (v:=(.bool _)) U U U ?_)))));exact⟨qaa Value.bool (qa2 fun h=>by rw[h]at h1;simp at h1).symm,H.ext⟩
 .intro h1;replace h1:=CZ h1;have hle:xs.length=ys.length:=by omega
  refine Ay (Aa (Ax (Ae (Ap U (Be CF U (Af U (qA (A1 (Bw 67100720 (α:=Nat) (fun i=>[(13,.int .i64 (i:Int))]) (fun i w'=>i<=xs.length/\Ctx w0 [] w' []/\∀(k:Nat) (x y:Ed),k<i->xs[k]?=some x->ys[k]?=some y->x=y) (fun i=>xs.length - i) 0 U ?_ ?_ ?_)))))))))
  .exact⟨rfl,trivial⟩
  .exact⟨qaq _,H,fun k x y h=>absurd h (qbd _)⟩
  .clear H;rintro i j w ⟨hi,H,hb⟩;refine Ae (Bm U U (qA (Ax (Aw _ U ?_ ?_))))
   .intro h2;replace h2:=AM h2;obtain⟨x,hx⟩:=AE (l:=xs) (i:=i);obtain⟨y,hy⟩:=AE (l:=ys) (i:=i);refine Ay (Aa (Ax (A1 (Ae (Af U (Ad U (qA (DT (fun x=>x=_) Br U ?_))))))));refine Ca U (AX U (BL R CF CG U U (by rfl) ?_));refine G8 _ GU CG U U (by rintro _ rfl;exact((R.ext0 H.drew.ext).row hx rfl)) ?_;refine Ca U (AX U (BL Ry CF CG U U (by rfl) ?_));refine G8 _ GU CG U U (by rintro _ rfl;exact((Ry.ext0 H.drew.ext).row hy rfl)) ?_;refine Yv (ks:=[true,true,true,true]) (xs:=CO x) (ys:=CO y) (decide (x=y)) U U U ⟨rfl,rfl,rfl,rfl,trivial⟩ (VH x y) ?_;refine BS ?_;rintro _ rfl;replace H:=H.drew;refine Aw _ U ?_ ?_
    .intro h3;refine Ae (Ai U (qA (A5 (AF (Av (Av (AF (Av (AB (v:=(.bool _)) U U U ?_)))))))));have hne:¬x=y:=by simpa using h3
     exact⟨qaa Value.bool (qa2 fun h=>by subst h;rw[hx]at hy;injection hy with hy;exact hne hy).symm,H.ext⟩
    .intro h3;refine Ay (A8 (Aa (A0 (Az U U ?_))));refine Af U (qA ?_);have heq:x=y:=by simpa using h3
     refine⟨i+1,rfl,⟨rfl,trivial⟩,⟨by omega,H,fun k x' y' hk hx' hy'=>?_⟩,by omega⟩
     rcases qap k i with h7|h7
     .exact hb k x' y' h7 hx' hy'
     .obtain rfl:k=i:=by omega
      rw[hx]at hx';rw[hy]at hy';cases hx';cases hy';exact heq
   .intro h2;replace h2:=AN h2;refine Bt (An (An (AK (Aa (Ae (Ai U (qA (A5 (AB (v:=(.bool _)) U U U ?_)))))))));obtain rfl:i=xs.length:=by omega
    exact⟨qaa Value.bool (qan (Nk hle hb)).symm,H.ext⟩
theorem Aqr(a b:Option Addr)(n c m d:Nat)(xs ys:List Int)(w:World)(R:Rd w a 1 U1 xs)(hn:xs.length=n)(hn2:n<=1000000)(Ry:Rd w b 1 U1 ys)(hm:ys.length=m)(hm2:m<=1000000) :
  Ret prog 154 #[.slice a n c,.slice b m d] w fun v w'=>v=.bool (decide (xs=ys))/\Ext [] w w':=by
 subst hn hm;obtain⟨w0,rfl,H⟩:=qE w;refine Au (fn:=f154) func154 U [.slice a xs.length c,.slice b ys.length d] U (Ae (Ai U (qA (Ax (Ae (Ap U (Be Bh U (Ap U (Be Bh U (CK U U ?_))))))))));refine qA (Aw _ U ?_ ?_)
 .intro h1;replace h1:=CY h1;refine Ae (Ai U (qA (A5 (Av (AB (v:=(.bool _)) U U U ?_)))));exact⟨qaa Value.bool (qa2 fun h=>by rw[h]at h1;simp at h1).symm,H.ext⟩
 .intro h1;replace h1:=CZ h1;have hle:xs.length=ys.length:=by omega
  refine Ay (Aa (Ax (Ae (Ap U (Be Bh U (Af U (qA (A1 (Bw 67100720 (α:=Nat) (fun i=>[(13,.int .i64 (i:Int))]) (fun i w'=>i<=xs.length/\Ctx w0 [] w' []/\∀(k:Nat) (x y:Int),k<i->xs[k]?=some x->ys[k]?=some y->x=y) (fun i=>xs.length - i) 0 U ?_ ?_ ?_)))))))))
  .exact⟨rfl,trivial⟩
  .exact⟨qaq _,H,fun k x y h=>absurd h (qbd _)⟩
  .clear H;rintro i j w ⟨hi,H,hb⟩;refine Ae (Bm U U (qA (Ax (Aw _ U ?_ ?_))))
   .intro h2;replace h2:=AM h2;obtain⟨x,hx⟩:=AE (l:=xs) (i:=i);obtain⟨y,hy⟩:=AE (l:=ys) (i:=i);refine Ay (Aa (Ax (A1 (Ae (Af U (Ad U (qA (DT (fun x=>x=_) Br U ?_))))))));refine Ca U (AX U (BL R Bh Bq U U (by rfl) ?_));refine BX B6 U (by rintro _ rfl;exact(((R.ext0 H.drew.ext).fld hx rfl (j:=0) rfl))) ?_;refine Ca U (AX U (BL Ry Bh Bq U U (by rfl) ?_));refine BX B6 U (by rintro _ rfl;exact(((Ry.ext0 H.drew.ext).fld hy rfl (j:=0) rfl))) ?_;refine Ox U U (BS ?_);rintro _ rfl;replace H:=H.drew;refine Aw _ U ?_ ?_
    .intro h3;replace h3:=CY h3;refine Ae (Ai U (qA (A5 (AF (Av (Av (AF (Av (AB (v:=(.bool _)) U U U ?_)))))))));have hne:¬x=y:=h3;exact⟨qaa Value.bool (qa2 fun h=>by subst h;rw[hx]at hy;injection hy with hy;exact hne hy).symm,H.ext⟩
    .intro h3;replace h3:=CZ h3;refine Ay (A8 (Aa (A0 (Az U U ?_))));refine Af U (qA ?_);have heq:x=y:=by omega
     refine⟨i+1,rfl,⟨rfl,trivial⟩,⟨by omega,H,fun k x' y' hk hx' hy'=>?_⟩,by omega⟩
     rcases qap k i with h7|h7
     .exact hb k x' y' h7 hx' hy'
     .obtain rfl:k=i:=by omega
      rw[hx]at hx';rw[hy]at hy';cases hx';cases hy';exact heq
   .intro h2;replace h2:=AN h2;refine Bt (An (An (AK (Aa (Ae (Ai U (qA (A5 (AB (v:=(.bool _)) U U U ?_)))))))));obtain rfl:i=xs.length:=by omega
    exact⟨qaa Value.bool (qan (Nk hle hb)).symm,H.ext⟩
theorem Abh(a b:Option Addr)(n c m d:Nat)(net:Bool)(w:World):Ret prog 141 #[.slice a n c,.slice b m d,.bool net] w fun v w'=>∃b1 b2 b3,v=.func (.func 165) #[] #[ptr b1,ptr b2,ptr b3]/\Ctx w [] w' [(b2,Bl 4 [.bool net]),(b1,Bl 38 [.slice b m d]),(b3,Bl 31 [.slice a n c])]:=by
 obtain⟨w0,rfl,H⟩:=qE w;refine Au (fn:=f141) func141 U [.slice a n c,.slice b m d,.bool net] U (Ae (Bu _ (.slice _ _ _) U U H ?_));rintro b3 w - H;refine Bu _ (.slice _ _ _) U U H ?_;rintro b4 w - H;refine Bu _ (.bool _) U U H ?_;rintro b5 w - H;refine Dd U .nilFunc U (qA (Ae (Cq [.pointer _,.pointer _,.pointer _] U (Dd U (.func _ _ _) U ?_))));refine qA (A5 (AB (v:=(.func _ _ _)) U U U ?_));exact⟨_,_,_,rfl,H⟩
theorem Aga(l:List Int):∀v∈l.map Eb,AY v=true:=fun v hv=>by
 obtain⟨x,_,rfl⟩:=qah.1 hv;rfl
theorem NU(a:Option Addr)(n c:Nat)(xs:List Int)(w:World)(R:Rd w a 1 I1 xs)(hn:xs.length=n)(hm:n<=1000000000:=by omega):
  Ret prog 123 #[.slice a n c] w fun v w'=>Fresh w w' 2 1 v (xs.map Eb):=by
 subst hn;obtain⟨w0,rfl,H⟩:=qE w;refine Au (fn:=f123) func123 U [.slice a xs.length c] U (Ae (Am U (qA (Ax (Ae (Ap U (Ih U Bf U (qA (Aw _ U ?_ ?_)))))))))
 .intro h1;have ha:a=none:=by simpa using h1
  subst ha
  have hxs:xs=[]:=by
   cases xs with
   |nil=>rfl
   |cons x xs=>obtain⟨b,o,h⟩:=R.some' (by simp);cases h
  subst hxs;refine Ae (Am U (qA (A5 (Av (AB (v:=(.slice _ _ _)) U U U ?_)))));exact Fresh.nil H _ _
 .intro h1;refine Ay (Aa (Ae (GQ Bf BD H ?_)));rintro b5 w H O;refine Ap U (GO U Bf Bf BD Mn Fh U (xs.map Eb) U U H O (by simp) (Aga xs) (Rd.app1 (f:=Eb) (R.ext0 H.ext)) ?_);rintro a7 c7 full7 w H O;refine Am U (qA (A5 (AB (v:=(.slice _ _ _)) U U U ?_)));exact H.fresh O
def Un(k:Int)(n:Nat):Nat:=(max 0 (min k (n:Int))).toNat
theorem Zg(N:Int)(a b:Option Addr)(n c m d:Nat)(k:Int)(fl:List Int)(w:World)(R:Rd w b 1 I1 fl)(hm:fl.length=m)(hd:m<=d)(hm2:m<=1000000) :
  Ret prog 82 #[Eo N a n c,.slice b m d,.int .i64 k] w fun v w'=>Fresh w w' 2 1 v ((fl.take (Un k m)).map Eb):=by
 subst hm;obtain⟨w0,rfl,H⟩:=qE w;have hk:Un k fl.length<=fl.length:=by unfold Un;omega
 refine Au (fn:=f82) func82 U [Eo N a n c,.slice b fl.length d,.int .i64 k] U (Ae (Bu [.int .i64 N,.slice a n c] (.agg _) U U H ?_));rintro b3 w - H;refine Am U (qA (Ae (Ap U (Af U (Ap U (Be Bf U (Yn U U U ?_)))))));refine MF U U U (KD U Bf BD U U ?_);refine Al qB (NU b (Un k fl.length) d (fl.take (Un k fl.length)) _ ((R.ext0 H.ext).take _) (by rw[qbb];omega)) U ?_;rintro v w F;obtain⟨a9,n9,c9,f9,rfl,O9,hb9⟩:=F.ex;refine Am U (qA (A5 (AB (v:=(.slice _ _ _)) U U U ?_)));exact⟨⟨a9,n9,c9,f9,rfl,O9,fun x hx=>⟨(hb9 x hx).1,qa6 H.size (hb9 x hx).2⟩⟩,H.ext.trans F.ext⟩
section
variable {P:Program}{r:Option Nat}{ops rest:List Oper}{Q:Exit->Env->World->Prop}{e:Env}{w:World}{dst:Option Tmp}{ty:TypeId}{pos:String}{af:Array Edge}{g:Option (Nat × Bool)}
theorem Uo{t k el:TypeId}{kk:IntKind}{x y:Operand}{b:Nat}{o:Obj}{m:List (Int × Value)}{n:Int}{z:Value}(hg:AV ⟨dst,.lookup t x y true,ty,pos,af,g⟩ ops e=true)(ht:Ip P t=some (k,el))(hk:P.underlying k=some (.int kk))(hz:(P.info? el).bind (·.zero)=some z)(hx:ev e x=.map (some b))(hy:ev e y=.int kk n)(hb:w.heap[b]?=some o)(hM:Df kk m o)(h:A7 P r ops Q rest (put e dst (.tuple #[(Ea m n).getD z,.bool (Ea m n).isSome])) w):A7 P r ops Q (⟨dst,.lookup t x y true,ty,pos,af,g⟩::rest) e w:=by
 have H:Ctx w [b] w [(b,o)]:=Ctx.start1 hb;exact Hk hg ht hk hz hx hy H at0 hM h
end
def Nm(ds:List Du)(k:Int):Du:=(CQ ds k).getD d00
theorem Up{bd b:Nat}{nx k:Int}{o:Obj}{ds:List Du}(w:World)(hd:w.heap[bd]?=some (Bl 132 (DU b nx)))(hb:w.heap[b]?=some o)(hM:Df .u64 (dm ds) o) :
  Ret prog 86 #[ptr bd,.int .u64 k] w fun v w'=>v=.tuple #[GG (Nm ds k),.bool (CQ ds k).isSome]/\Ext [] w w':=by
 obtain⟨w0,rfl,H⟩:=qE w
 have hmg:(Ea (dm ds) k).getD (GG d00)=GG (Nm ds k):=by
  rw[Il];unfold Nm;cases CQ ds k <;> rfl
 have hms:(Ea (dm ds) k).isSome=(CQ ds k).isSome:=by
  rw[Il];cases CQ ds k <;> rfl
 refine Au (fn:=f86) func86 U [.pointer (some ⟨bd,0,none⟩),.int .u64 k] U ?_;refine Ae (Bc DX H ?_);rintro b4 w - H;refine Ai U (qA (Ax (Ae (A4 U (Cw LV U ?_)))));refine qA (Aw _ U ?_ ?_)
 .intro h0;cases h0
 .intro h0;refine Ay (Aa (Ae (A4 U (A9 U (Ah El U (Bb F3 U ((H.old0 (by rw[Aj hd];rfl))) ?_))))));refine Af U (Uo (z:=GG d00) U FT Dc Mp U U (H.ext.to hb (by simp)) hM ?_);rw[hmg,hms];refine Cr U (AH U U (AH U U (Bc DX H ?_)));rintro b6 w - H;refine Bn BV U U U (by exact Dx (Nm ds k)) H at0 U ?_;rintro w H;refine Ai U (qA (Ae (Cg E4 BV U H at0 U (A2 U (Bn BV U U U (by exact Dx (Nm ds k)) H at1 U ?_)))));rintro w H;refine Ai U (qA (A5 (IR U U U E4 BV H at1 U (show _=(.bool _)from rfl) ?_)));exact⟨rfl,H.ext⟩
theorem Akf(w:World):Ret prog 27 #[] w fun v w'=>∃bd b o,v=ptr bd/\Df .u64 (dm []) o/\Ctx w [] w' [(bd,Bl 132 (DU b 1)),(b,o)]:=by
 obtain⟨w0,rfl,H⟩:=qE w;refine Au (fn:=f27) func27 U [] U (Ae (Cn U (qA (Ae (Mi .u64 U H ?_)))));rintro b o w hM H;refine BA (DU b 1) Aej Aep (Bu (DU b 1) (.agg _) U U H ?_);rintro b3 w - H;refine Cn U (qA (A5 (AB (v:=(.pointer _)) U U U ?_)));exact⟨b3,b,o,rfl,hM,H⟩
def dueB(n:Nat)(d:Du):Bool:=E7 d && (decide (d.fr<n) && decide (d.to<n))
def r19B(rs:List Int)(ds:List Du):Bool:=(decide (rs.length<=16) && decide (ds.length<=64)) && (rs.all Dp && (ds.all (dueB rs.length) && decide ((Fl (ds.map Du.am)).2=0)))
theorem Agb(ds:List Du):∀i,(EW i ds).map Du.am=ds.map Du.am:=by
 induction ds with
 |nil=>intro i;rfl
 |cons d ds ih=>intro i;show d.am::(EW (i+1) ds).map Du.am=d.am::ds.map Du.am;rw[ih]
theorem Agc(rs:List Int):decide ((Fl rs).2=1) = !rs.all Dp:=by
 unfold Fl
 cases h:rs.all Dp with
 |false=>rw[if_pos rfl];rfl
 |true =>
  rw[if_neg (by decide)]
  split <;> rfl
theorem Aqs(rs:List Int)(ds:List Du)(hl:ds.length<=1000000):r19B rs ds=DS rs ds:=by
 have h1:decide (ofC (EW 0 ds) (ds.length+1)=0)=(decide (ds.length<=64) && (ds.all E7 && decide ((Fl (ds.map Du.am)).2=0))):=by
  have ha:=Abe (ds:=ds) 0;rw[show(((0:Nat):Int)+ds.length+1)=(ds.length:Int)+1 by omega]at ha;have ham:(EW 0 ds).map (·.am)=ds.map Du.am:=Agb ds 0;unfold ofC;rw[SQ,ham,show Gf ((ds.length:Int)+1) 0 (EW 0 ds)=ds.all E7 from ha]
  by_cases h64:64<ds.length
  .rw[if_pos h64,qa2 (show ¬ds.length<=64 by omega)];rfl
  .rw[if_neg h64,qan (show ds.length<=64 by omega),qcl,if_neg (by rw[qan (show 1<=(ds.length:Int)+1 by omega),qan (show(ds.length:Int)+1<=4611686018427387904 by omega)];decide)]
   cases hm:ds.all E7 with
   |false=>rw[if_pos rfl];rfl
   |true=>rw[if_neg (by decide),qcl]
 have h2:ds.all (dueB rs.length)=(ds.all (fun d=>decide (max d.fr d.to<rs.length)) && ds.all E7):=by
  rw[qad];simp only[qae,qaw,qar,dueB];constructor
  .intro h;exact⟨fun d hd=>by have:=h d hd;omega,fun d hd=>(h d hd).1⟩
  .intro h d hd;have:=h.1 d hd;exact⟨h.2 d hd,by omega,by omega⟩
 unfold r19B DS;rw[h1,h2,Agc];cases decide (rs.length<=16) <;> cases decide (ds.length<=64) <;> cases rs.all Dp <;> cases ds.all (fun d=>decide (max d.fr d.to<rs.length)) <;> cases ds.all E7 <;> rfl
def inA(acs:List Ac)(k:Int):Bool:=decide (0<=k) && decide (k<acs.length)
def D8(acs:List Ac)(k:Int):Ac:=if inA acs k=true then acs.getD k.toNat a00 else a00
theorem P8{bd:Nat}(a:Option Addr)(n c:Nat)(acs:List Ac)(k:Int)(w:World)(hd:w.heap[bd]?=some (Bl 129 [.slice a n c]))(R:Rd w a 2 Dl acs)(hn:acs.length=n)(hm:n<=1000000) :
  Ret prog 85 #[ptr bd,.int .i64 k] w fun v w'=>v=.tuple #[.agg (Dl (D8 acs k)).toArray,.bool (inA acs k)]/\Ext [] w w':=by
 subst hn;obtain⟨w0,rfl,H⟩:=qE w;refine Au (fn:=f85) func85 U [.pointer (some ⟨bd,0,none⟩),.int .i64 k] U ?_;refine Ae (Bc HA H ?_);rintro b4 w - H;refine Ai U (qA (Ax (Ae (Ci (α:=Unit) 2097088 (fun _=>[(20,.bool (!inA acs k))]) (fun _ w'=>Ctx w0 [] w' [(b4,Bl 108 (Dl a00))]) U ?_ ?_))))
 .refine A4 U (Cw OI U ?_);refine A2 U (AR 8 U ?_ ?_)
  .intro h1;refine Ag U (Ag U (AA U (.bool _) U (A2 U (Ag U (Ag U (Ag U (Ag U (Ag U (Ag U ?_)))))))));refine Ag U (AA U (.bool _) U (Ab ?_));exact⟨rfl,(),rfl,⟨qaa Value.bool (by unfold inA;rw[qad];simp_all;try omega),trivial⟩,H⟩
  .intro h2;refine Af U (Bm U U (AJ U (.bool _) U (A2 U (AR 12 U ?_ ?_))))
   .intro h3;replace h3:=AM h3;refine Ag U (Ag U (Ag U (Ag U (Ag U (Ag U (Ag U (AA U (.bool _) U (Ab ?_))))))));exact⟨rfl,(),rfl,⟨qaa Value.bool (by unfold inA;rw[qad];simp_all;try omega),trivial⟩,H⟩
   .intro h4;replace h4:=AN h4;refine Af U (A4 U (A9 U (Ah ES U (Bb IU U ((H.old0 (by rw[Aj hd];rfl))) ?_))));refine Be EQ U (CM U U (AJ U (.bool _) U (Ab ?_)));exact⟨rfl,(),rfl,⟨qaa Value.bool (by unfold inA;rw[qad];simp_all;try omega),trivial⟩,H⟩
 rintro - j20 w H;refine Aw _ U ?_ ?_
 .intro h1;replace h1:=BM h1;refine Ae (BA [.int .i64 0,.int .i64 0] Aeh HA ?_);refine Bn DO U U U (by simp[AY]) H at0 U ?_;rintro w H;refine Ai U (qA (A5 (Av (IR U U U Ml DO H at0 U (show _=(.bool _)from rfl) ?_))));have h1':inA acs k=false:=by simpa using h1
  exact⟨by unfold D8;rw[h1',if_neg (by decide)];rfl,H.ext⟩
 .intro h1;replace h1:=BN h1;have h1':inA acs k=true:=by simpa using h1
  have h2:0<=k/\k<acs.length:=by unfold inA at h1';simpa using h1'
  obtain⟨i,rfl⟩:∃i:Nat,k=(i:Int):=⟨k.toNat,by omega⟩;obtain⟨x,hx⟩:=AE (l:=acs) (i:=i);refine Ay (Aa (Ae (A4 U (A9 U (Ah ES U (Bb IU U ((H.old0 (by rw[Aj hd];rfl))) ?_))))));refine Af U (Bg R EQ DO U U (by rfl) ?_);refine C9 _ Ml DO U U ((R.ext0 H.ext).row hx U) (Bn DO U U U (by exact J4 _) H at0 U ?_);rintro w H;refine Ai U (qA (A5 (IR U U U Ml DO H at0 U (show _=(.bool _)from rfl) ?_)));exact⟨by unfold D8;rw[h1',if_pos rfl,show((i:Int)).toNat=i from rfl,Bv hx],H.ext⟩
end Go.Proofs.YtffclglpjlcojaaGreat
