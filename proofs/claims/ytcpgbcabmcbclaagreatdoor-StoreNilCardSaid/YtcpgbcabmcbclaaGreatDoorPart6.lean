/- Part 6 of the proof. -/
import Derived.Test.YtcpgbcabmcbclaaGreatDoorPart5
set_option maxRecDepth 20000
set_option maxHeartbeats 8000000
namespace Go.Proofs.YtcpgbcabmcbclaaGreatDoor
open Go.GV Go.Proofs.Tryz
attribute [local irreducible] Ay W Wq Wt
def Abq(w:World)(ids:List Nat):Mut:=fun x=>x<w.heap.size\/x∈ids
theorem Abr{w0 w w':World}{L L':List (Nat × Obj)}(H:Ctx w (L.map (·.1)) w' L'):Grown (Abq w0 (L.map (·.1))) (Abq w0 (L'.map (·.1))) w w' :=
 ⟨⟨L.map (·.1),fun x h => .inr h,H.ext⟩,fun x h=>by
  rcases h with h|h
  .exact .inl (.inl h)
  .obtain⟨y,hy,rfl⟩:=qak.1 h
   rcases H.own y hy with h5|h5
   .exact .inl (.inr h5)
   .exact .inr h5⟩
theorem Abs(inner:Bool)(b:Byt)(at':Nat):Ed inner b 0 at'=some ([],at'):=rfl
theorem MW{inner:Bool}{b:Byt}{n at':Nat}(h:Kx inner b at'=none):Ed inner b (n+1) at'=none:=by
 unfold Ed;rw[h]
theorem MX{inner:Bool}{b:Byt}{n at' m:Nat}{x:It}(h:Kx inner b at'=some (x,m)):Ed inner b (n+1) at'=(Ed inner b n m).map fun r=>(x::r.1,r.2):=by
 rw[Ed];rw[h];simp only;cases Ed inner b n m <;> rfl
theorem Abt{b:Byt}{w w':World}{v:Value}(h:Lk b w v w'):∃a c,v=.tuple #[bv (CA b),.slice a (Bv b).length c,.int .i64 (DX b)]/\Ext [] w w'/\Rdx w' (Old w) a (Bv b)/\(Bv b).length<=c:=by
 rcases h with⟨h,rfl,hx⟩|⟨h,s,rfl,F⟩
 .exact⟨none,0,by rw[CA,Bv,qag h];rfl,hx,by rw[Bv,qag h];exact Rdx.nil,by rw[Bv,qag h];exact qae _⟩
 .obtain⟨a,c,rfl,R,hc,hn⟩:=Fresh.newB F;exact⟨a,c,by rw[CA,Bv,h];rfl,F.ext,by rw[Bv,h];exact Rdx.fresh R hn,by rw[Bv,h];exact hc⟩
def OkL(b:Byt)(x:It):Prop:=x.key.length<=b.length/\x.val.length<=b.length/\x.page<4294967296
theorem Abu(a:Option Addr)(c m:Nat)(b:Byt)(w:World)(R:Rd w a 1 B8 b)(hb:b.length=m)(hc:m<=c)(hm:m<=1000000:=by omega):
  Ret prog 203 #[.slice a m c] w fun v w'=>∃(inner:Bool) (a':Option Addr) (n' c':Nat),v=.tuple #[.agg #[.bool inner,.slice a' n' c'],.bool (DK b).isSome]/\Ext [] w w'/\∀i L,DK b=some (i,L)->inner=i/\Its w' (Old w) a' n' c' L/\∀x∈L,OkL (Bv b) x:=by
 subst hb;obtain⟨w0,rfl,H⟩:=qE w;have hbl:=Mz b;obtain⟨g,nx,htv,hg,hnx,h0⟩:=Qz (Bv b) 0;have hkt:=(CA b).toNat_lt;obtain⟨ib,hib⟩:=qD (decide ((CA b).toNat=3))
 have hP0:∀{x:Bool},(decide (DX b=0) && (decide (Cz (Bv b) ((0:Nat):Int) 2=0) && (decide ((CA b).toNat=2) || decide ((CA b).toNat=3))))=x->DK b=if x=true then TQ ib (Bv b) (Ed ib (Bv b) (numN ((Bv b).take 2)) 2)else none:=by
  intro x hx;rw[hib];unfold DK
  by_cases h1:DX b=0
  .have e1:Bv b=Cg b:=by rw[Bv,qai h1];rfl
   have e2:CA b=Fa b:=by rw[CA,qai h1];rfl
   rw[e1,e2]at hx |-;subst hx
   by_cases h2:Cz (Cg b) 0 2=0/\((Fa b).toNat=2\/(Fa b).toNat=3)
   .rw[if_pos ⟨h1,h2⟩,if_pos (by simpa[h1]using h2)]
   .rw[if_neg (fun h=>h2 h.2),if_neg (fun h=>h2 (by simpa[h1]using h))]
  .rw[if_neg (fun h=>h1 h.1)];subst hx;rw[if_neg (by simp[h1])]
 refine Ax (fn:=f203) func203 U [.slice a b.length c] U (Ad (Bf CJ H ?_));rintro b2 w - H;refine Am U (qA (Ad (Aj U (Ah qB (RZ a c _ b _ (R.ext0 H.ext) U hc) U ?_))));have hb2:=H.lt (k:=0) rfl;rintro v w16 hop;obtain⟨a5,c5,rfl,hx16,X5,hc5⟩:=Abt hop;have Hold:=H.call hx16;replace H:=Ctx.startL (fun x hx=>Hold.blk x hx) Hold.nd;have hge:=(Hold.own _ (qad ..)).elim (fun h=>by cases h) id;have R5:∀{z:World},Ext [b2] w16 z->Rd z a5 1 B8 (Bv b):=(fun{z} hz=>(X5.past hz (fun x hx=>by rw[qab.1 hx];exact hb2)).1);refine AL U (Ag U U (Ag U U (Ag U U (Ac U (Ai U (Ac U (qA (Ad (Ae U ?_)))))))));refine B6 U U ?_;rw[show decide (((CA b).toNat:Int)=3)=ib by rw[hib];exact decide_eq_decide.2 (by omega)];refine Bw [.bool ib,.slice none 0 0] Hy CJ (Bf CJ H ?_)
 rintro b7 w - H;refine Bc Bm U U U (by simp[AX]) H at0 U ?_;rintro w H;refine qA (Ad (Aj U (Ah qB (Fq a5 c5 _ (Bv b) ((0:Nat):Int) 2 _ (R5 H.ext) U hc5) U ?_)));rintro v w ⟨rfl,hx25⟩;rw[htv];replace H:=H.call hx25;refine AL U (Ag U U (Ag U U (Ag U U (Ac U (Ac U (Ac U (qA (Aq (Ad (B5 (α:=Unit) 17591649173504 (fun _=>[(43,.bool (!(decide (DX b=0) && (decide (Cz (Bv b) ((0:Nat):Int) 2=0) && (decide ((CA b).toNat=2) || decide ((CA b).toNat=3))))))]) (fun _ w'=>Ctx w16 [b2] w' [(b7,Bl 183 [.bool ib,.slice none 0 0]),(b2,Bl 183 [.bool false,.slice none 0 0])]) U ?_ ?_))))))))))
 .refine Ae U (AN U U (A4 U (AU 31 U ?_ ?_)))
  .intro h1;replace h1:=Bh h1;refine Ak U (Ak U (AR U (.bool _) U (A4 U (Ak U (Ak U (Ak U (Ak U (Ak U (Ak U ?_)))))))));refine Ak U (AR U (.bool _) U (Ab ?_));exact⟨rfl,(),rfl,⟨qac Value.bool (by rw[hib]at *;rw[qap];simp_all;try omega),trivial⟩,H⟩
  .intro h2;replace h2:=Bi h2;refine Ae U (AN U U (AJ U (.bool _) U (A4 U (AU 35 U ?_ ?_))))
   .intro h3;replace h3:=Bh h3;refine Ak U (Ak U (Ak U (Ak U (Ak U (Ak U (Ak U (AR U (.bool _) U (Ab ?_))))))));exact⟨rfl,(),rfl,⟨qac Value.bool (by rw[hib]at *;rw[qap];simp_all;try omega),trivial⟩,H⟩
   .intro h4;replace h4:=Bi h4;refine Ae U (AN U U (A4 U (AU 38 U ?_ ?_)))
    .intro h5;replace h5:=Bh h5;refine Af Dh U (AG Gp U H at0 U (Cc U (AR U (.bool _) U (AJ U (.bool _) U (Ab ?_)))));exact⟨rfl,(),rfl,⟨qac Value.bool (by rw[hib]at *;rw[qap];simp_all;try omega),trivial⟩,H⟩
    .intro h6;replace h6:=Bi h6;refine Ak U (Ak U (Ak U (AJ U (.bool _) U (AJ U (.bool _) U (Ab ?_)))));exact⟨rfl,(),rfl,⟨qac Value.bool (by rw[hib]at *;rw[qap];simp_all;try omega),trivial⟩,H⟩
 rintro - j43 w H;have hx0:∀{z:World},Ext [b2] w16 z->Ext [] w0 z:=fun{z} h=>Hold.ext.then h (fun x hx => .inr (by rw[qab.1 hx];exact hge));refine Ar _ U ?_ ?_
 .intro h1;replace h1:=Cs h1;have hP:=hP0 h1;rw[if_neg (by simp)]at hP;refine Ad (Bw [.bool false,.slice none 0 0] Hy CJ ?_);refine Bc Bm U U U (by simp[AX]) H at1 U ?_;rintro w H;refine Am U (qA (Aw (An (CE U U U BJ Bm H at1 U (show _=(.bool _)from rfl) ?_))));exact⟨false,none,0,0,by rw[hP];rfl,hx0 H.ext,fun i L h=>by rw[hP]at h;cases h⟩
 .intro h1;replace h1:=Cu h1;have hP:=hP0 h1;rw[if_pos rfl]at hP;simp only[qao,qaq]at h1;obtain⟨hg2,hnx2⟩:=h0 h1.2.1;subst hnx2;rw[List.drop_zero]at hg2;rw[<-hg2]at hP
  refine Ap (Aa (Aq (Ad (Ae U (Ae U (qA (AB (BE 295147834810608663048 (α:=Nat × Nat × List Im × Option Addr × Nat × List Value) (fun s=>[(46,.int .u64 (s.1:Int)),(9,.int .i64 (s.2.1:Int))]) (fun s w'=>s.1<=g/\s.2.1<=505/\Ctx w16 [b2] w' ([(b7,Bl 183 [.bool ib,.slice s.2.2.2.1 s.2.2.1.length s.2.2.2.2.1]),(b2,Bl 183 [.bool false,.slice none 0 0])]++ent s.2.2.2.1 185 s.2.2.2.2.2)/\OS s.2.2.2.1 s.2.2.1.length s.2.2.2.2.1 3 s.2.2.2.2.2 (s.2.2.1.flatMap Im.enc)/\(∀m∈s.2.2.1,m.Ok w' (Abq w0 (([(b7,Bl 183 [.bool ib,.slice s.2.2.2.1 s.2.2.1.length s.2.2.2.2.1]),(b2,Bl 183 [.bool false,.slice none 0 0])]++ent s.2.2.2.1 185 s.2.2.2.2.2).map (·.1)))/\OkL (Bv b) m.it)/\s.2.2.1.length=s.1/\Ed ib (Bv b) g 2=(Ed ib (Bv b) (g - s.1) s.2.1).map fun r=>(s.2.2.1.map (·.it)++r.1,r.2)) (fun s=>g - s.1) (0,2,[],none,0,[]) U ?_ ?_ ?_))))))))
  .exact⟨rfl,rfl,trivial⟩
  .refine⟨qal _,by decide,H,OS.nil,(fun m h=>by cases h),rfl,?_⟩;dsimp only;rw[Nat.sub_zero];cases Ed ib (Bv b) g 2 <;> rfl
  .rintro⟨k,at',ms,aa,cc,full⟩ j w ⟨hk,hat,H,O,hms,hml,hpg⟩;dsimp only at hk hat H O hms hml hpg;dsimp only;refine Ad (Bp U U (qA (Aq (Ar _ U ?_ ?_))))
   .intro h2;replace h2:=AV h2;rw[show g - k=(g - (k+1))+1 by omega]at hpg;refine Ap (Aa (Aq (AB (Ad (Af Dh U (AG Gp U H at0 U (Aj U (Ae U (Ah qB (Ah2 ib a5 c5 _ (Bv b) at' _ (R5 H.ext) U hc5) U ?_)))))))));have hszw:=(fun y hy=>Al (H.blk y hy));have hEw:=hx0 H.ext;rintro v w1 ⟨x,nx,e,rfl,hx53,hxo,hnxb,hkl,hvl,hpl,he0,he1⟩;have Hold2:=H.call hx53;replace H:=Ctx.startL (fun x hx=>Hold2.blk x hx) Hold2.nd;refine AL U (Ag U U (Ag U U (Ag U U (Bf Dn H ?_))));rintro b11 w - H;refine Bc Bn U U U (by exact Im.oneE _) H at0 U ?_;rintro w H;refine Ac U (Ac U (qA (Aq (Ad (Ae U (AN U U (qA (Ar _ U ?_ ?_))))))))
    .intro h3;replace h3:=Bh h3;rw[MW (he1 h3)]at hpg;rw[hpg]at hP;have hxx:Ext [] w0 w1:=hx0 Hold2.ext;refine Ad (Bw [.bool false,.slice none 0 0] Hy CJ ?_);refine Bc Bm U U U (by simp[AX]) H at2 U ?_;rintro w H;refine Am U (qA (Aw (An (AK (An (An (AK (An (CE U U U BJ Bm H at2 U (show _=(.bool _)from rfl) ?_)))))))));refine⟨false,none,0,0,by rw[hP];rfl,hxx.then H.ext (fun y hy => .inr ?_),fun i L h=>by rw[hP]at h;cases h⟩;obtain⟨z,hz,rfl⟩:=qak.1 hy
     rcases Hold2.own z hz with h5|h5
     .rw[qab.1 h5];exact hge
     .have:=Hold.ext.size;omega
    .intro h3;replace h3:=Bi h3;have hone:=he0 h3;rw[MX hone]at hpg;refine Ap (Aa (A5 (Af B0 U (AG BV U H at1 U (BH Dg Bn U H at0 U (C3 _ (.agg _) Bu Bn Dn U U U U H ?_))))));rintro b63 w - H;refine Df (L:=[_,_,_]) Bu Bu Bn RH Dn U U U H O U (Im.oneE x) ?_;rintro a64 c64 full64 w H O;refine Ae U (Af B0 U (Bk (.slice _ _ _) Da U U U H at1 (by(simp;done)) ?_));rintro w H;refine Ac U (Ab (AH (Aa (A5 (Ks U U U ?_)))));refine Ae U (qA ?_);have hL1:(ms++[x]).length=ms.length+1:=by simp
     have H2:Ctx w1 (([(b7,Bl 183 [.bool ib,.slice aa ms.length cc]),(b2,Bl 183 [.bool false,.slice none 0 0])]++ent aa 185 full).map (·.1)) w ([(b7,Bl 183 [.bool ib,.slice a64 (ms++[x]).length c64]),(b2,Bl 183 [.bool false,.slice none 0 0])]++ent a64 185 full64):=by rw[hL1];exact H.tail
     have G:=Abr (w0:=w0) H2;refine⟨(k+1,nx,ms++[x],a64,c64,full64),rfl,⟨rfl,rfl,trivial⟩,⟨by dsimp only;omega,by dsimp only;omega,Ctx.nil_app (Ctx.back (L2:=[]) (Ctx.app_nil Hold2) H2),by dsimp only;rw[hL1,qcg];simpa using O,fun m hm=>?_,by dsimp only;omega,?_⟩,by dsimp only;omega⟩
     .dsimp only at hm |-
      rcases qat.1 hm with hm|hm
      .exact⟨((hms m hm).1.call hx53).turn G,(hms m hm).2⟩
      .rw[qab.1 hm];refine⟨(hxo.weak fun y hy=>?_).turn G,hkl,hvl,hpl⟩
       rcases hy with hy|hy
       .exact qas hy hEw.size
       .obtain⟨z,hz,rfl⟩:=qak.1 hy;exact hszw z hz
     .dsimp only;rw[hpg]
      cases Ed ib (Bv b) (g - (k+1)) nx with
      |none=>rfl
      |some r=>simp
   .intro h2;replace h2:=AW h2;have hkg:k=g:=by omega
    subst hkg;rw[qdx,Abs]at hpg;rw[hpg]at hP;simp only[qbd,qa2]at hP;have hxx:Ext [] w0 w:=hx0 H.ext;have Rm:=OS.rd O (fun x hx=>H.blk x (qaz _ hx)) (fun _ _=>rfl) (by decide);obtain⟨wE,rfl⟩:=qD w;have hb7:wE.heap[b7]?=some (Bl 183 [.bool ib,.slice aa ms.length cc]):=H.get at0
    have hbs:b2≠b7:=fun e=>by
     have h5:=H.nd;simp[e]at h5
    have Hq:=H;have H:=Ctx.start1 (Hq.get at1);have hkeep:∀{z:World},Ext [b2] wE z->z.heap[b7]?=some (Bl 183 [.bool ib,.slice aa ms.length cc]):=fun{z} h=>by rw[h.block b7 (Al hb7) (by simp;exact fun e=>hbs e.symm)];exact hb7
    have hits:∀{z:World},Ext [b2] wE z->Its z (Old w0) aa ms.length cc (ms.map (·.it))/\∀y∈ms.map (·.it),OkL (Bv b) y:=fun{z} hz=>by
     have hS:∀y∈[b2],w0.heap.size<=y/\y∈(([(b7,Bl 183 [.bool ib,.slice aa ms.length cc]),(b2,Bl 183 [.bool false,.slice none 0 0])]++ent aa 185 full).map (·.1)):=fun y hy=>by
      rw[qab.1 hy];exact⟨hge,by simp⟩
     have G:Grown (Abq w0 (([(b7,Bl 183 [.bool ib,.slice aa ms.length cc]),(b2,Bl 183 [.bool false,.slice none 0 0])]++ent aa 185 full).map (·.1))) (Abq w0 (([(b7,Bl 183 [.bool ib,.slice aa ms.length cc]),(b2,Bl 183 [.bool false,.slice none 0 0])]++ent aa 185 full).map (·.1))) wE z:=⟨⟨[b2],fun y hy => .inr (hS y hy).2,hz⟩,fun y hy => .inl hy⟩;refine⟨⟨⟨ms,?_,?_,rfl,fun m hm=>((hms m hm).1.turn G).weak fun y hy => .inl hy⟩,by rw[qan],O.le⟩,fun y hy=>?_⟩
     .cases haa:aa with
      |none =>
       have h8:=O.le;have h9:=O.none' haa;rw[qa8 (show ms.length=0 by omega)];exact Rd.nil
      |some q =>
       rw[<-haa];refine Rm.ext hz fun hq=>?_;have h5:=Hq.nd;rw[haa]at h5 hq;simp only[qab,adr]at hq;simp[ent,hq]at h5
     .cases haa:aa with
      |none=>exact .inl (qa8 (by have h8:=O.le;have h9:=O.none' haa;omega))
      |some q =>
       refine .inr fun hq=>?_;have h5:=Hq.own (q.block,Bl 185 full) (qaz _ (by rw[haa];exact qab.2 rfl));have h6:=Hold.ext.size;unfold Old at hq;simp only[adr]at hq
       rcases h5 with h5|h5
       .have:=qab.1 h5;dsimp only at this;omega
       .dsimp only at h5;omega
     .obtain⟨m,hm,rfl⟩:=qak.1 hy;exact(hms m hm).2
    refine B9 (A6 (A6 (Bd (Aa (BQ [([0,1,2,3,4,5,6,7,8,9,10],11),([],12)] (fun z=>z.heap[b7]?=some (Bl 183 [.bool ib,.slice aa ms.length cc])) [] mixed (hb7) ?_)))));refine A7 U U (Wn _ U BJ Bm U U (fun _ hx=>(fun j v hv=>by rw[Au hx,qa4];exact hv)) ?_);refine BI U (Ca U (NQ AO U (t_eql U U U (Wo U U (SY 73 U ?_ ?_)))))
    .intro h3;replace h3:=AV h3;have h3':at'=(Bv b).length:=by omega
     refine AF B0 U (BO BV U (fun _ hx=>Au hx (0+1)) ?_);refine NQ Bu U (t_gtr U U U (Adv U U (.bool _) U (Bj ?_)));replace H:=H.drew;refine Bc Bm U U U (by simp[AX]) H at0 U ?_;rintro w H;refine Ab (Be (hkeep H.ext) (A7 U U ?_));refine Bj (Am U (Ab (Be (hkeep H.ext) (B2 (Aw (CE U U U BJ Bm H at0 U (show _=(.bool _)from rfl) ?_))))));refine⟨ib,aa,ms.length,cc,?_,hx0 (Hq.ext.then H.ext fun y hy => .inl hy),fun i L h=>?_⟩
     .rw[hP]
      cases ms with
      |nil=>simp[TQ]
      |cons m ms=>simp[TQ,h3']
     .rw[hP]at h;simp only[TQ]at h
      split at h
      .injection h with h
       injection h with h5 h6
       subst h5 h6;exact⟨rfl,hits H.ext⟩
      .cases h
    .intro h3;replace h3:=AW h3;have h3':¬at'=(Bv b).length:=by omega
     have hP':DK b=none:=by rw[hP];simp[TQ,h3']
     refine EM U (EM U (EM U (EM U (Adw U U (.bool _) U (Bj ?_)))));replace H:=H.drew;refine Bc Bm U U U (by simp[AX]) H at0 U ?_;rintro w H;refine Ab (Be (hkeep H.ext) (A7 U U ?_));refine Bj (Am U (Ab (Be (hkeep H.ext) (B2 (Aw (CE U U U BJ Bm H at0 U (show _=(.bool _)from rfl) ?_))))));exact⟨ib,aa,ms.length,cc,by rw[hP'];rfl,hx0 (Hq.ext.then H.ext fun y hy => .inl hy),fun i L h=>by rw[hP']at h;cases h⟩
def stv(s:Nat):Value := .int .u8 (s:Int)
def TPg:Nat:=145
def TSt:Nat:=146
structure PgAt(w:World)(bp ba:Nat)(P:List Nat):Prop where
 hd:w.heap[bp]?=some (Bl TPg [.slice (some ⟨ba,0,none⟩) P.length P.length])
 st:w.heap[ba]?=some (Bl TSt (P.map stv))
 ne:bp≠ba
 ok:∀s∈P,s<=3
 len:P.length<=4096
def Co(P:List Nat):Nat:=(P.takeWhile fun s=>decide (s≠0)).length
def Fu(P:List Nat)(k:Nat):List Nat:=if P[k]?=some 1 then P.set k 3 else if P[k]?=some 2 then P.set k 0 else P
def Fv(s:Nat):Nat:=if s=2 then 1 else if s=3 then 0 else s
def Q0(s:Nat):Nat:=if s=2 then 0 else if s=3 then 1 else s
def Dt(P:List Nat):Nat:=P.countP fun s=>decide (s=0)
theorem PgAt.keep{w w':World}{bp ba:Nat}{P:List Nat}{S:List Nat}(h:PgAt w bp ba P)(hx:Ext S w w')(h1:bp∉S)(h2:ba∉S):PgAt w' bp ba P :=
 ⟨by rw[hx.block bp (Al h.hd) h1];exact h.hd,by rw[hx.block ba (Al h.st) h2];exact h.st,h.ne,h.ok,h.len⟩
theorem Sj{w:World}{ba t:Nat}{P:List Nat}{k s:Nat}(h:w.heap[ba]?=some (Bl t (P.map stv)))(hk:P[k]?=some s):w.cell? ⟨ba,0+k*1,none⟩=some (stv s):=by
 rw[Au h,qa4,qb7,qax,hk];rfl
theorem Ah4(P:List Nat)(k s:Nat):(P.map stv).set k (stv s)=(P.set k s).map stv:=by rw[List.map_set]
theorem PgAt.set{w w':World}{bp ba:Nat}{P:List Nat}(h:PgAt w bp ba P)(hx:Ext [ba] w w'){k s:Nat}(hs:s<=3)(hb:w'.heap[ba]?=some (Bl TSt ((P.map stv).set k (stv s)))):PgAt w' bp ba (P.set k s) :=
 ⟨by rw[hx.block bp (Al h.hd) (by simpa using h.ne),qcb];exact h.hd,by rw[hb,Ah4],h.ne,fun x hx=>(qe0 hx).elim (h.ok x) (fun e=>e ▸ hs),by rw[qcb];exact h.len⟩
section
variable {w:World}{bp ba:Nat}{P:List Nat}
theorem OQ(h:PgAt w bp ba P):Ret prog 114 #[ptr bp] w fun v w'=>v=.int .i64 (P.length:Int)/\w=w':=by
 obtain⟨w0,rfl⟩:=qD w;refine Ax (fn:=f114) func114 U [.pointer (some ⟨bp,0,none⟩)] U ?_;refine Ad (Ac U (qA (Aq (Ad (Ao U (BC Tv U ?_))))));refine qA (Br U (Ap (Aa (Ad (Ao U (AD U (Af Fl U (Bq Ih U (Au h.hd (0+0)) ?_))))))));refine AP GP U (Ac U (qA (Aw (AE (v:=(.int _ _)) U U U ?_))));exact⟨rfl,rfl⟩
def Nm(P:List Nat)(k:Int):Bool:=decide (0<=k) && decide (k<(P.length:Int))
theorem Aer(h:PgAt w bp ba P)(k:Int):Ret prog 150 #[ptr bp,.int .i64 k] w fun v w'=>v=.bool (Nm P k)/\w=w':=by
 obtain⟨w0,rfl⟩:=qD w;refine Ax (fn:=f150) func150 U [.pointer (some ⟨bp,0,none⟩),.int .i64 k] U ?_;refine Ad (Am U (qA (Ad (Ao U (PZ U Tv U ?_)))));refine A4 U (Ae U (Hv U U (AR U (.bool _) U (A4 U (AU 11 U ?_ ?_)))))
 .intro h1;replace h1:=AV h1;refine Ae U (Ao U (AD U (Af Fl U (Bq Ih U (Au h.hd (0+0)) ?_))));refine AP GP U (Bp U U (AR U (.bool _) U (Am U (qA (Aw (AE (v:=(.bool _)) U U U ?_))))));exact⟨qac Value.bool (by unfold Nm;rw[qap];simp_all;try omega),rfl⟩
 .intro h2;replace h2:=AW h2;refine Ak U (Ak U (Ak U (Ak U (Ak U (Ak U (Ak U (AJ U (.bool _) U (Am U (qA ?_)))))))));refine Aw (AE (v:=(.bool _)) U U U ?_);exact⟨qac Value.bool (by unfold Nm;rw[qap];simp_all;try omega),rfl⟩
theorem Sk(h:PgAt w bp ba P)(k:Int):Ret prog 132 #[ptr bp,.int .i64 k] w fun v w'=>v=.int .i64 (bif Nm P k then 0 else 1)/\w=w':=by
 obtain⟨w0,rfl⟩:=qD w;refine Ax (fn:=f132) func132 U [.pointer (some ⟨bp,0,none⟩),.int .i64 k] U ?_;refine Ad (Ac U (qA (Aq (AB (Ad (Ao U (BC Tv U ?_)))))));refine Am U (qA (Br U (Ad (Ao U (Ae U (Ah qB (Aer h k) U ?_))))));rintro v w ⟨rfl,rfl⟩;refine Cc U (Am U (qA (Ar _ U ?_ ?_)))
 .intro h1;replace h1:=Cs h1;refine Ad (Ac U (qA (Aw (AK (An (AE (v:=(.int _ _)) U U U ?_))))));exact⟨by rw[show Nm P k=false by simpa using h1];rfl,rfl⟩
 .intro h1;replace h1:=Cu h1;refine Ap (AH (Aa (Ad (Ac U (qA (Aw (AE (v:=(.int _ _)) U U U ?_)))))));exact⟨by rw[show Nm P k=true by simpa using h1];rfl,rfl⟩
theorem TW{P:List Nat}{k:Nat}(h1:∀j x,j<k->P[j]?=some x->x≠0)(hk:k<=P.length)(h2:∀x,P[k]?=some x->x=0):Co P=k :=
 FP (fun j x hj hx=>qai (h1 j x hj hx)) hk fun x hx=>qag (fun h=>h (h2 x hx))
theorem Abv(h:PgAt w bp ba P):Ret prog 157 #[ptr bp] w fun v w'=>(Co P<P.length/\v=.tuple #[.int .i64 (Co P:Int),.int .i64 0]/\PgAt w' bp ba (P.set (Co P) 2)/\Ext [ba] w w')\/(Co P=P.length/\v=.tuple #[.int .i64 0,.int .i64 7]/\w=w'):=by
 obtain⟨w0,rfl⟩:=qD w;have hlen:=h.len;refine Ax (fn:=f157) func157 U [.pointer (some ⟨bp,0,none⟩)] U ?_;refine Ad (Ac U (Ac U (qA (Aq (Ad (Ao U (BC Tv U ?_)))))));refine qA (Br U (Ap (Aa (Aq (Ad (Ao U (AD U (Af Fl U (Bq Ih U (Au h.hd (0+0)) ?_)))))))));refine AP GP U (Ae U (qA (AB (BE 268427324 (α:=Nat) (fun i=>[(13,.int .i64 (i:Int))]) (fun i w'=>w0=w'/\i<=P.length/\∀j x,j<i->P[j]?=some x->x≠0) (fun i=>P.length - i) 0 U ?_ ?_ ?_))))
 .exact⟨rfl,trivial⟩
 .exact⟨rfl,qal _,fun j x hj=>absurd hj (qcw _)⟩
 .rintro i j w ⟨rfl,hi,hb⟩;refine Ad (Bp U U (qA (Aq (Ar _ U ?_ ?_))))
  .intro h1;replace h1:=AV h1;obtain⟨s,hs⟩:=AY (l:=P) (i:=i);have hs3:=h.ok s (qaf hs);refine Ap (Aa (Aq (AB (Ad (Ae U (CO U GP Gq U U ?_))))));refine Bq Vh U (Sj h.st hs) ?_;refine Ac U (Ac U (qA (Ad (Ae U (B6 U U (qA (Ar _ U ?_ ?_)))))))
   .intro h2;replace h2:=AV h2;have ht:Co P=i:=TW hb hi (fun x hx=>by rw[hs]at hx;cases hx;omega);have H:=Ctx.start1 h.st;refine Ad (Ao U (AD U (Af Fl U (Bq Ih U (Au h.hd (0+0)) ?_))));refine Ae U (CO U GP Gq U U ?_);refine Bk (.int _ _) Gq U U U H at0 (by(simp;omega)) ?_;rintro w H;refine qA (Ad (Ae U (Ac U (Ac U (qA (Aw (AK (An (An (AK (An (BA (v1:=(.int _ _)) (v2:=(.int _ _)) U U U U ?_))))))))))));refine .inl ⟨by omega,by rw[ht],?_,H.ext⟩;rw[ht];exact h.set H.ext (by decide) (by rw[H.get at0];simp[stv])
   .intro h2;replace h2:=AW h2;refine Ap (AH (Aa (A5 (A8 U U ?_))));refine Ae U (qA ?_);refine⟨i+1,rfl,⟨rfl,trivial⟩,⟨rfl,by omega,fun j x hj hx=>?_⟩,by omega⟩
    rcases qbl j i with h3|h3
    .exact hb j x h3 hx
    .obtain rfl:j=i:=by omega
     rw[hs]at hx;cases hx;omega
  .intro h1;replace h1:=AW h1
   have ht:Co P=P.length:=by
    have hii:i=P.length:=by omega
    subst hii;exact TW hb (qae _) (fun x hx=>by have:=(qar.1 hx).1;omega)
   refine B9 (A6 (A6 (Bd (Aa (Ad (Ac U (Ac U (qA (Aw (BA (v1:=(.int _ _)) (v2:=(.int _ _)) U U U U ?_))))))))));exact .inr ⟨ht,rfl,rfl⟩
theorem Abw(h:PgAt w bp ba P)(k:Nat)(hk:k<P.length):Ret prog 94 #[ptr bp,.int .i64 (k:Int)] w fun v w'=>(∃e,v=.int .i64 e)/\PgAt w' bp ba (Fu P k)/\Ext [ba] w w':=by
 obtain⟨w0,rfl⟩:=qD w;have hlen:=h.len;obtain⟨s,hs⟩:=AY (l:=P) (i:=k) (h:=hk);have hs3:=h.ok s (qaf hs);have hh:Nm P (k:Int)=true:=by unfold Nm;simp;omega
 have H:=Ctx.start1 h.st;have hpz:∀{z:World},Ext [ba] w0 z->z.heap[bp]?=some (Bl TPg [.slice (some ⟨ba,0,none⟩) P.length P.length]):=fun{z} hz=>by rw[hz.block bp (Al h.hd) (by simpa using h.ne)];exact h.hd
 refine Ax (fn:=f94) func94 U [.pointer (some ⟨bp,0,none⟩),.int .i64 (k:Int)] U ?_;refine Ad (Ac U (qA (Aq (Ad (Ao U (Ae U (Ah qB (Sk h (k:Int)) U ?_)))))));rintro v w ⟨rfl,rfl⟩;rw[hh];refine Ac U (qA (Ad (Ae U (AN U U (qA (Br U (Ap (Aa (Aq (Ad ?_))))))))));refine Ao U (AD U (Af Fl U (Bq Ih U (Au (hpz H.ext) (0+0)) ?_)));refine Ae U (CO U GP Gq U U ?_);refine Bq Vh U (Sj (H.get at0) hs) (qA (AB (Ad (B6 U U (Am U (qA (Ar _ U ?_ ?_)))))))
 .intro h1;replace h1:=AV h1;have h1':P[k]?=some 1:=by rw[hs];congr 1;omega
  refine A5 (Ao U (AD U (Af Fl U (Bq Ih U (Au (hpz H.ext) (0+0)) ?_))));refine Ae U (CO U GP Gq U U ?_);refine Bk (.int _ _) Gq U U U H at0 (by(simp;omega)) ?_;rintro w H;refine Ab (AH (Aa (Ad (Ac U (qA (Aw (AE (v:=(.int _ _)) U U U ?_)))))));exact⟨⟨_,rfl⟩,by rw[Fu,if_pos h1'];exact h.set H.ext (by decide) (by rw[H.get at0];simp[stv]),H.ext⟩
 .intro h1;replace h1:=AW h1;have h1':¬P[k]?=some 1:=by rw[hs];intro e;cases e;omega
  refine Ad (B6 U U (Am U (qA (Ar _ U ?_ ?_))))
  .intro h2;replace h2:=AV h2;have h2':P[k]?=some 2:=by rw[hs];congr 1;omega
   refine A5 (Ao U (AD U (Af Fl U (Bq Ih U (Au (hpz H.ext) (0+0)) ?_))));refine Ae U (CO U GP Gq U U ?_);refine Bk (.int _ _) Gq U U U H at0 (by(simp;omega)) ?_;rintro w H;refine Ab (AH (Aa (Ad (Ac U (qA (Aw (AE (v:=(.int _ _)) U U U ?_)))))));exact⟨⟨_,rfl⟩,by rw[Fu,if_neg h1',if_pos h2'];exact h.set H.ext (by decide) (by rw[H.get at0];simp[stv]),H.ext⟩
  .intro h2;replace h2:=AW h2;have h2':¬P[k]?=some 2:=by rw[hs];intro e;cases e;omega
   refine Ad (Ac U (qA (Aw (AK (An (AE (v:=(.int _ _)) U U U ?_))))));exact⟨⟨_,rfl⟩,by rw[Fu,if_neg h1',if_neg h2'];exact h,H.ext⟩
theorem TX{P:List Nat}{i s:Nat}(h:P[i]?=some s):Dt (P.take (i+1))=Dt (P.take i)+if s=0 then 1 else 0:=by
 unfold Dt;rw[Bt h,List.countP_append]
 by_cases hs:s=0 <;> simp[hs]
end
theorem Aes(n:Nat)(h1:1<=n)(h2:n<=4096)(w:World):Ret prog 78 #[.int .i64 (n:Int)] w fun v w'=>∃bp ba,v=.tuple #[ptr bp,.int .i64 0]/\PgAt w' bp ba (List.replicate n 0)/\Ext [] w w'/\w.heap.size<=bp/\w.heap.size<=ba:=by
 obtain⟨w0,rfl,H⟩:=qE w;refine Ax (fn:=f78) func78 U [.int .i64 (n:Int)] U (Ad (Bb U (Ac U (qA (Aq (Ad (Ae U (Bp U U ?_))))))));rw[qag (show ¬(n:Int)<1 by omega)];refine A4 U (Ae U (BP U U ?_));rw[qag (show ¬(4096:Int)<(n:Int)by omega)];refine AJ U (.bool _) U (qA (Br U (Ap (Aa (Ad (Ae U (Nr U GP Gq Agu Ahs U U H ?_)))))));rintro b11 w - H;rw[qbi]at H;rw[qbi];refine Bw [.slice (some ⟨b11,0,none⟩) n n] Ahl Ahr ?_;refine BN [.slice (some ⟨b11,0,none⟩) n n] (.agg _) U U H ?_;rintro b13 w - H;refine Bb U (Ac U (qA (Aw (BA (v1:=(.pointer _)) (v2:=(.int _ _)) U U U U ?_))));have hn:=H.nd
 refine⟨b13,b11,rfl,⟨by rw[H.get at0,qbc];rfl,by rw[H.get at1];simp[stv,TSt],fun e=>by simp[e]at hn,fun s hs=>by rw[(qdl.1 hs).2];decide,by rw[qbc];exact h2⟩,H.ext,(H.own _ (qad ..)).elim (fun h=>by cases h) id,(H.own _ (qah _ (qad ..))).elim (fun h=>by cases h) id⟩
theorem WH{I:Nat->World->Prop}{E:Int->World->Prop}{bl:Nat}(fs:List Value)(w:World)(hl:fs.length<=100)(hI:I 0 w)(hb:∀i w',I i w'->w'.heap[bl]?=some (Bl 46 fs))(hfs:∀v∈fs,∃f fi caps,v=.func (.func f) fi caps)(hf:∀i f fi caps w',fs[i]?=some (.func (.func f) fi caps)->I i w'->Av prog f=true/\Ret prog f (fi++caps) w' fun v w''=>∃e,v=.int .i64 e/\((e=0/\I (i+1) w'')\/(e≠0/\E e w''))) :
  Ret prog 37 #[.slice (some ⟨bl,0,none⟩) fs.length fs.length] w fun v w'=>∃e,v=.int .i64 e/\((e=0/\I fs.length w')\/(e≠0/\E e w')):=by
 obtain⟨w0,rfl⟩:=qD w;refine Ax (fn:=f37) func37 U [.slice (some ⟨bl,0,none⟩) fs.length fs.length] U ?_;refine Ad (Ac U (qA (Aq (Ad (Aj U (AP Om U (Ae U (qA (AB ?_)))))))));refine BE 261940 (α:=Nat) (fun i=>[(8,.int .i64 (i:Int))]) (fun i w'=>i<=fs.length/\I i w') (fun i=>fs.length - i) 0 U ?_ ?_ ?_
 .exact⟨rfl,trivial⟩
 .exact⟨qal _,hI⟩
 .clear hI;rintro i j w ⟨hi,hI⟩;refine Ad (Bp U U (qA (Aq (Ar _ U ?_ ?_))))
  .intro h1;replace h1:=AV h1;obtain⟨x,hx⟩:=AY (l:=fs) (i:=i);obtain⟨f,fi,caps,rfl⟩:=hfs x (qaf hx);obtain⟨hc,hr⟩:=hf i f fi caps w hx hI;rw[show fi++caps=(fi++caps).toList.toArray from(Array.toArray_toList).symm]at hr;refine Ap (Aa (Aq (AB (Ad (CO U Om W4 U U ?_)))));refine Bq ag_46 U ((by rw[Au (hb i w hI),qa4,qb7];exact hx)) ?_;refine BL U (.func _ _ _) U (qA (Ad (B4 (.func _ _ _) U ?_)));refine IX U U hc hr (by simp) ?_;rintro v w ⟨e,rfl,he⟩;refine Ac U (qA (Ad (Ae U (AN U U (qA (Ar _ U ?_ ?_))))))
   .intro h2;replace h2:=Bh h2;refine Ad (Ae U (Ac U (qA (Aw (AK (An (An (AK (An (AE (v:=(.int _ _)) U U U ?_))))))))));exact⟨e,rfl,.inr ⟨h2,(he.resolve_left fun h=>h2 h.1).2⟩⟩
   .intro h2;replace h2:=Bi h2;refine Ap (AH (Aa (A5 (A8 U U ?_))));refine Ae U (qA ?_);exact⟨i+1,rfl,⟨rfl,trivial⟩,⟨by omega,(he.resolve_right fun h=>h.1 h2).2⟩,by omega⟩
  .intro h1;replace h1:=AW h1;obtain rfl:i=fs.length:=by omega
   refine B9 (A6 (A6 (Bd (Aa (Ad (Ac U (qA (Aw (AE (v:=(.int _ _)) U U U ?_)))))))));exact⟨0,rfl,.inl ⟨rfl,hI⟩⟩
theorem Abx{I:Nat->World->Prop}{E:Int->World->Prop}{bl:Nat}(fs:List Value)(w:World)(hl:fs.length<=100)(hI:I 0 w)(hb:∀i w',I i w'->w'.heap[bl]?=some (Bl 46 fs))(hfs:∀v∈fs,∃f caps,v=.func (.func f) #[] caps)(hf:∀i f caps w',fs[i]?=some (.func (.func f) #[] caps)->I i w'->Av prog f=true/\Ret prog f caps w' fun v w''=>∃e,v=.int .i64 e/\((e=0/\I (i+1) w'')\/(e≠0/\E e w''))) :
  Ret prog 37 #[.slice (some ⟨bl,0,none⟩) fs.length fs.length] w fun v w'=>∃e,v=.int .i64 e/\((e=0/\I fs.length w')\/(e≠0/\E e w')) :=
 WH fs w hl hI hb (fun v hv=>let ⟨f,caps,h⟩:=hfs v hv;⟨f,#[],caps,h⟩) fun i f fi caps w' hi h=>by
  obtain⟨f',caps',h'⟩:=hfs _ (qaf hi)
  injection h' with h1 h2 h3
  subst h2;rw[Array.empty_append];exact hf i f caps w' hi h
abbrev CK(vd vj vp vt:Value)(gen:Nat)(root:Int)(m1 m2:Nat)(n:Int)(dead:Bool):List Value:=[vd,vj,vp,vt,.int .u64 (gen:Int),.int .i64 root,.map (some m1),.map (some m2),.int .i64 n,.bool dead]
abbrev EC:Value := .pointer none
theorem Its.past{w w1 w2:World}{a:Option Addr}{n c:Nat}{L:List It}{S:List Nat}(I:Its w (Old w1) a n c L)(he:Ext S w w2)(hS:∀x∈S,x<w1.heap.size):Its w2 (Old w1) a n c L :=
 I.turn ⟨⟨S,hS,he⟩,fun _ h => .inl h⟩
def TT:Nat:=162
def Q1(bd bp fr:Nat):List Value:=[ptr bd,ptr bp,.int .i64 (fr:Int)]
structure Tx(w:World)(bt bd bp ba fr:Nat)(A:Dev)(P:List Nat)(F:Mut)(L:List (Nat × Obj)):Prop where
 tr:w.heap[bt]?=some (Bl TT (Q1 bd bp fr))
 pg:PgAt w bp ba P
 dev:DevAt w bd A F
 blk:∀x∈L,w.heap[x.1]?=some x.2
 nd:L.Pairwise fun x y=>x.1≠y.1
 off:∀x∈L,¬F x.1/\x.1≠ba/\x.1≠bt/\x.1≠bp
 nbt:¬F bt/\bt≠ba
 nbp:¬F bp
 nba:¬F ba
 lt:∀x,F x->x<w.heap.size
def TM(F:Mut)(ba bt bp:Nat)(L:List (Nat × Obj)):Mut:=fun x=>F x\/x=ba\/x=bt\/x=bp\/x∈L.map (·.1)
section
variable {w w':World}{bt bd bp ba fr:Nat}{A A':Dev}{P P':List Nat}{F F':Mut}{L L':List (Nat × Obj)}
theorem Tx.mlt(T:Tx w bt bd bp ba fr A P F L):∀x,TM F ba bt bp L x->x<w.heap.size:=fun x h=>by
 rcases h with h|rfl|rfl|rfl|h
 .exact T.lt x h
 .exact Al T.pg.st
 .exact Al T.tr
 .exact Al T.pg.hd
 .obtain⟨y,hy,rfl⟩:=qak.1 h;exact Al (T.blk y hy)
theorem Tx.ids(T:Tx w bt bd bp ba fr A P F L):∀x∈L.map (·.1),¬F x/\x≠ba/\x≠bt/\x≠bp:=fun x h=>by
 obtain⟨y,hy,rfl⟩:=qak.1 h;exact T.off y hy
theorem Tx.own(T:Tx w bt bd bp ba fr A P F L)(H:Ctx w (L.map (·.1)) w' L'):Tx w' bt bd bp ba fr A P F L'/\Grown (TM F ba bt bp L) (TM F ba bt bp L') w w':=by
 have hi:=T.ids;have hs:=H.ext.size
 have hnew:∀x∈L',¬F x.1/\x.1≠ba/\x.1≠bt/\x.1≠bp:=fun x hx=>by
  rcases H.own x hx with h|h
  .exact hi _ h
  .exact⟨fun hf=>by have:=T.lt _ hf;omega,fun e=>by have:=Al T.pg.st;omega,fun e=>by have:=Al T.tr;omega,fun e=>by have:=Al T.pg.hd;omega⟩
 refine⟨⟨?_,T.pg.keep H.ext (fun h=>(hi _ h).2.2.2 rfl) (fun h=>(hi _ h).2.1 rfl),T.dev.keep H.ext fun x h hf=>(hi x h).1 hf,H.blk,H.nd,hnew,T.nbt,T.nbp,T.nba,fun x h=>by have:=T.lt x h;omega⟩,⟨⟨L.map (·.1),fun x h => .inr (.inr (.inr (.inr h))),H.ext⟩,fun x h=>?_⟩⟩
 .rw[H.ext.block bt (Al T.tr) fun h=>(hi _ h).2.2.1 rfl];exact T.tr
 .rcases h with h|h|h|h|h
  .exact .inl (.inl h)
  .exact .inl (.inr (.inl h))
  .exact .inl (.inr (.inr (.inl h)))
  .exact .inl (.inr (.inr (.inr (.inl h))))
  .obtain⟨y,hy,rfl⟩:=qak.1 h;exact(H.own y hy).imp (fun h => .inr (.inr (.inr (.inr h)))) id
theorem Tx.ctx(T:Tx w bt bd bp ba fr A P F L):Ctx w (L.map (·.1)) w L:=Ctx.startL T.blk T.nd
theorem Tx.call(T:Tx w bt bd bp ba fr A P F L)(hx:Ext [] w w'):Tx w' bt bd bp ba fr A P F L:=(T.own (T.ctx.call hx)).1
theorem Grown.call0{F:Mut}(hx:Ext [] w w'):Grown F F w w':=⟨.of0 hx,fun _ h => .inl h⟩
theorem Tx.page(T:Tx w bt bd bp ba fr A P F L)(h:PgAt w' bp ba P')(hx:Ext [ba] w w'):Tx w' bt bd bp ba fr A P' F L/\Grown (TM F ba bt bp L) (TM F ba bt bp L) w w':=by
 have hs:=hx.size;refine⟨⟨?_,h,T.dev.keep hx fun x h hf=>by rw[qab.1 h]at hf;exact T.nba hf,fun x hm=>?_,T.nd,T.off,T.nbt,T.nbp,T.nba,fun x h=>by have:=T.lt x h;omega⟩,⟨⟨[ba],fun x h => .inr (.inl (qab.1 h)),hx⟩,fun x h => .inl h⟩⟩
 .rw[hx.block bt (Al T.tr) (by simpa using T.nbt.2)];exact T.tr
 .rw[hx.block x.1 (Al (T.blk x hm)) (by simpa using(T.off x hm).2.1)];exact T.blk x hm
theorem Tx.devs(T:Tx w bt bd bp ba fr A P F L)(h:DevAt w' bd A' F')(t:Turn F w w')(hF:∀x,F' x->F x\/(w.heap.size<=x/\x<w'.heap.size)):Tx w' bt bd bp ba fr A' P F' L/\Grown (TM F ba bt bp L) (TM F' ba bt bp L) w w':=by
 obtain⟨S,hS,hx⟩:=t;have hs:=hx.size;have hno:∀x,x<w.heap.size->¬F x->¬F' x:=fun x h1 h2 h3=>(hF x h3).elim h2 fun h=>by omega
 have hb:=Al T.tr;have hp:=Al T.pg.hd;have ha:=Al T.pg.st;refine⟨⟨?_,T.pg.keep hx (fun h=>T.nbp (hS _ h)) (fun h=>T.nba (hS _ h)),h,fun x hm=>?_,T.nd,fun x hm=>⟨hno _ (Al (T.blk x hm)) (T.off x hm).1,(T.off x hm).2⟩,⟨hno _ hb T.nbt.1,T.nbt.2⟩,hno _ hp T.nbp,hno _ ha T.nba,fun x h=>?_⟩,⟨⟨S,fun x h => .inl (hS x h),hx⟩,fun x h=>?_⟩⟩
 .rw[hx.block bt hb fun h=>T.nbt.1 (hS _ h)];exact T.tr
 .rw[hx.block x.1 (Al (T.blk x hm)) fun h=>(T.off x hm).1 (hS _ h)];exact T.blk x hm
 .rcases hF x h with h|h
  .have:=T.lt x h;omega
  .exact h.2
 .rcases h with h|h
  .exact(hF x h).imp .inl And.left
  .exact .inl (.inr h)
end
def CM(A:Dev)(fr sz:Nat)(page depth:Int):Int × Option (Bool × List It) :=
 if 16<depth\/page<0\/(sz:Int)<=page then(9,none)
 else if F6 A ((fr:Int)+page)=0 then(match DK (Fb A ((fr:Int)+page))with|none=>(9,none)|some n=>(0,some n))
 else(F6 A ((fr:Int)+page),none)
theorem Yi{A:Dev}(h:Wf A)(k:Int):(Fb A k).length<=512:=by
 unfold Fb
 by_cases h0:F6 A k=0
 .rw[qai h0,cond_true];unfold F6 at h0
  cases ho:A.on with
  |false=>rw[ho]at h0;cases h0
  |true =>
   cases hh:A.has k with
   |false=>rw[ho,hh]at h0;cases h0
   |true =>
    have hl:k.toNat<A.B.length:=by simp only[Dev.has,qao,qaq]at hh;omega
    have hm:=Ll (d:=(zeros,([]:List Byt))) (h:=hl);unfold stands
    cases hg:(A.B.getD k.toNat (zeros,[])).2.getLast? with
    |none=>rw[Option.getD_none,h.sure _ hm];exact qae _
    |some b=>rw[qda,h.loose _ hm b (List.mem_of_getLast? hg)];exact qae _
 .rw[qag h0];exact qal _
section
variable {w:World}{bt bd bp ba fr:Nat}{A:Dev}{P:List Nat}{F:Mut}{L:List (Nat × Obj)}
theorem OR(T:Tx w bt bd bp ba fr A P F L)(hfr:fr<=5000)(page depth:Int)(hp : -9223372036854775808<=page/\page<=9223372036854775807){mx:Nat}(hfew:Few A mx)(hmx:mx<=1000000000) :
  Ret prog 181 #[ptr bt,.int .i64 page,.int .i64 depth] w fun v w'=>∃(inner:Bool) (a:Option Addr) (n c:Nat),v=.tuple #[.agg #[.bool inner,.slice a n c],.int .i64 (CM A fr P.length page depth).1]/\Ext [] w w'/\∀i M,(CM A fr P.length page depth).2=some (i,M)->inner=i/\Its w' (Old w) a n c M/\∀x∈M,x.key.length<=505/\x.val.length<=505/\x.page<4294967296:=by
 obtain⟨w0,rfl,H⟩:=qE w;have hlen:=T.pg.len;obtain⟨rd,hrd⟩:=qD (CM A fr P.length page depth);rw[<-hrd];unfold CM at hrd;refine Ax (fn:=f181) func181 U [.pointer (some ⟨bt,0,none⟩),.int .i64 page,.int .i64 depth] U ?_;refine Ad (Bf CJ H ?_);rintro b6 w - H;refine Ac U (qA (Aq (Ad (B5 (α:=Unit) 134213632 (fun _=>[(26,.bool (decide (16<depth) || (decide (page<0) || decide ((P.length:Int)<=page))))]) (fun _ w'=>Ctx w0 [] w' [(b6,Bl 183 [.bool false,.slice none 0 0])]) U ?_ ?_))))
 .refine Ae U (BP U U (A4 U (AU 14 U ?_ ?_)))
  .intro h1;replace h1:=AV h1;refine Ak U (Ak U (AR U (.bool _) U (A4 U (Ak U (Ak U (Ak U (Ak U (Ak U (Ak U ?_)))))))));refine Ak U (AR U (.bool _) U (Ab ?_));exact⟨rfl,(),rfl,⟨qac Value.bool (by rw[qap];simp;omega),trivial⟩,H⟩
  .intro h2;replace h2:=AW h2;refine Ae U (Bp U U (AJ U (.bool _) U (A4 U (AU 18 U ?_ ?_))))
   .intro h3;replace h3:=AV h3;refine Ak U (Ak U (Ak U (Ak U (Ak U (Ak U (Ak U (AR U (.bool _) U (Ab ?_))))))));exact⟨rfl,(),rfl,⟨qac Value.bool (by rw[qap];simp;omega),trivial⟩,H⟩
   .intro h4;replace h4:=AW h4;refine Ae U (Ao U (AD U (Af Jh U (Bq Od U (Au (T.call H.ext).tr (0+1)) ?_))));refine Ah qB (OQ (T.call H.ext).pg) U ?_;rintro v w ⟨rfl,rfl⟩;refine Hv U U (AJ U (.bool _) U (Ab ?_));exact⟨rfl,(),rfl,⟨qac Value.bool (by rw[qap];simp;omega),trivial⟩,H⟩
 rintro - j26 w H;refine Ar _ U ?_ ?_
 .intro h1;rw[if_pos (by simpa using h1)]at hrd;refine Ad (Bw [.bool false,.slice none 0 0] Hy CJ ?_);refine Bc Bm U U U (by simp[AX]) H at0 U ?_;rintro w H;refine Ac U (qA (Aw (An (CE U U U BJ Bm H at0 U (show _=(.int _ _)from rfl) ?_))));exact⟨false,none,0,0,by rw[hrd],H.ext,fun i M h=>by rw[hrd]at h;cases h⟩
 .intro h1;have hn1:¬(16<depth\/page<0\/(P.length:Int)<=page):=(by intro h5;have h6:(decide (16<depth) || (decide (page<0) || decide ((P.length:Int)<=page)))=true:=(by simpa using h5);rw[h1]at h6;cases h6);rw[if_neg hn1]at hrd;have hb6:=H.get at0;have hx6:=H.ext;obtain⟨wb,rfl⟩:=qD w;have Tb:=T.call hx6;refine Ap (Aa (BQ [([0,1,2,3,4,5,6,7,8,9],10),([11,12,13,14],15)] (fun z=>Ext [] wb z) [] mixed (Ext.drew [] wb) ?_));refine A7 U U (CP U (Bg U (AF Tq U (BO Cy U (fun _ hx=>Au (Tb.call hx).tr (0+0)) ?_))));refine CP U (Bg U (AF Ts U (BO DE U (fun _ hx=>Au (Tb.call hx).tr (0+2)) ?_)));refine BI U (Ew U U ?_);refine Bj ?_
  skip
  refine Ah qB (OG ((fr:Int)+page) hfew (Tb.call (Ext.drew [] wb)).dev) U ?_;rintro v w2 ⟨s39,rfl,F39⟩;obtain⟨a39,c39,rfl,R39,hc39⟩:=Fresh.rdB F39;refine Ab (Be ((Ext.drew [] wb).trans F39.ext) (A7 U U ?_));refine Ic U (BX U U (BX U U (Mh U U (Bj (Ac U (Ab (Be ((Ext.drew [] wb).trans F39.ext) (B2 (Aq ?_)))))))));have hx39:=(Ext.drew [] wb).trans F39.ext;replace H:=(show Ctx w0 [] wb [(b6,Bl 183 [.bool false,.slice none 0 0])]from H).call hx39;refine Ad (Ae U (AN U U (qA (Ar _ U ?_ ?_))))
  .intro h2;replace h2:=Bh h2;rw[if_neg h2]at hrd;refine Ad (Bw [.bool false,.slice none 0 0] Hy CJ ?_);refine Ae U (Bc Bm U U U (by simp[AX]) H at0 U ?_);rintro w H;refine Ac U (qA (Aw (An (CE U U U BJ Bm H at0 U (show _=(.int _ _)from rfl) ?_))));exact⟨false,none,0,0,by rw[hrd],H.ext,fun i M h=>by rw[hrd]at h;cases h⟩
  .intro h2;replace h2:=Bi h2;rw[if_pos h2]at hrd;have hrl:=Yi T.dev.wf ((fr:Int)+page);refine Ap (Aa (Ad (Aj U (Ah qB (Abu a39 c39 _ (Fb A ((fr:Int)+page)) _ R39 U hc39) U ?_))));have hb6l:=H.lt (k:=0) rfl;have hxw:=H.ext;rintro v w5 ⟨inner,aa,nn,cc,rfl,hx48,hits⟩;have Hold:=H.call hx48;replace H:=Ctx.startL (fun x hx=>Hold.blk x hx) Hold.nd;have hge:=(Hold.own _ (qad ..)).elim (fun h=>by cases h) id;refine AL U (Ag U U (Ag U U (Bf CJ H ?_)));rintro b10 w - H;refine Bc Bm U U U (by simp[AX]) H at0 U ?_;rintro w H;refine Am U (qA (Aq (Ad (A4 U (Cc U (qA (Ar _ U ?_ ?_)))))))
   .intro h3;replace h3:=Cs h3;have hn:DK (Fb A ((fr:Int)+page))=none:=by cases h:DK (Fb A ((fr:Int)+page)) <;> simp_all
    rw[hn]at hrd;refine Ad (Bw [.bool false,.slice none 0 0] Hy CJ ?_);refine Bc Bm U U U (by simp[AX]) H at1 U ?_;rintro w H;refine Ac U (qA (Aw (An (CE U U U BJ Bm H at1 U (show _=(.int _ _)from rfl) ?_))));exact⟨false,none,0,0,by rw[hrd],Hold.ext.then H.ext (fun x hx => .inr (by rw[qab.1 hx];exact hge)),fun i M h=>by rw[hrd]at h;cases h⟩
   .intro h3;replace h3:=Cu h3;obtain⟨nd,hn⟩:∃nd,DK (Fb A ((fr:Int)+page))=some nd:=by cases h:DK (Fb A ((fr:Int)+page)) <;> simp_all
    rw[hn]at hrd;refine Ap (Aa (Ad (BH BJ Bm U H at0 U (Bc Bm U U U (by simp[AX]) H at1 U ?_))));rintro w H;refine Ac U (qA (Aw (CE U U U BJ Bm H at1 U (show _=(.int _ _)from rfl) ?_)));refine⟨inner,aa,nn,cc,by rw[hrd],Hold.ext.then H.ext (fun x hx => .inr (by rw[qab.1 hx];exact hge)),fun i M h=>?_⟩;rw[hrd]at h
    injection h with h
    subst h;obtain⟨h5,h6,h7⟩:=hits i M hn;refine⟨h5,(h6.past H.ext fun x hx=>by rw[qab.1 hx];exact hb6l).weak (Old.mono hxw),fun x hx=>?_⟩;have h8:=h7 x hx;have h9:=Mz (Fb A ((fr:Int)+page));unfold OkL at h8;omega
end
theorem Aet{w:World}{bd bp ba:Nat}{A:Dev}{F:Nat->Prop}{P:List Nat}(hD:DevAt w bd A F)(hP:PgAt w bp ba P)(frm:Int)(_ : -9223372036854775808<=frm)(_:frm<=9223372036854775807) :
  Ret prog 80 #[ptr bd,ptr bp,.int .i64 frm] w fun v w'=>Ext [] w w'/\((frm<0\/(A.B.length:Int) - (P.length:Int)<frm)/\v=.tuple #[.pointer none,.int .i64 1]\/(¬(frm<0\/(A.B.length:Int) - (P.length:Int)<frm)/\∃bt,v=.tuple #[ptr bt,.int .i64 0]/\w'.heap[bt]?=some (Bl TT [ptr bd,ptr bp,.int .i64 frm])/\w.heap.size<=bt)):=by
 obtain⟨w0,rfl⟩:=qD w;have hlen:=hP.len;obtain⟨role,bs,bm,sv,m,o,D,hF⟩:=hD;have hwf:=D.wf.hi;have H:=Ctx.start w0 [];refine Ax (fn:=f80) func80 U [.pointer (some ⟨bd,0,none⟩),.pointer (some ⟨bp,0,none⟩),.int .i64 frm] U ?_;refine Ad (Bb U (Ac U (qA (Aq (AB (Ad (Ao U (BC I0 U ?_))))))));refine A4 U (Ao U (BC Tv U ?_));refine AJ U (.bool _) U (Am U (qA (Br U (Ad (B5 (α:=Unit) 134184960 (fun _=>[(15,.bool (decide (frm<0) || decide ((A.B.length:Int) - (P.length:Int)<frm)))]) (fun _ w'=>w0=w') U ?_ ?_)))))
 .refine Ae U (Bp U U (A4 U (AU 18 U ?_ ?_)))
  .intro h1;replace h1:=AV h1;refine Ak U (Ak U (Ak U (Ak U (Ak U (Ak U (Ak U (AR U (.bool _) U (Am U (Ab ?_)))))))));exact⟨rfl,(),rfl,⟨qac Value.bool (by(rw[qai h1]);rfl),trivial⟩,rfl⟩
  .intro h2;replace h2:=AW h2;refine Ae U (Ao U (Ah qB (Ga D.hd) U ?_));rintro v w ⟨rfl,rfl⟩;refine Ao U (Ah qB (OQ hP) U ?_);rintro v w ⟨rfl,rfl⟩;refine Bx U U (BP U U (AJ U (.bool _) U (Am U (Ab ?_))));exact⟨rfl,(),rfl,⟨qac Value.bool (by(rw[qag h2]);rfl),trivial⟩,rfl⟩
 rintro - j15 w rfl;refine Ar _ U ?_ ?_
 .intro hA;refine Ad (Bb U (Ac U (qA (Aw (AK (An (BA (v1:=(.pointer _)) (v2:=(.int _ _)) U U U U ?_)))))));exact⟨.refl _ _,.inl ⟨by simpa using hA,rfl⟩⟩
 .intro hA;refine Ap (AH (Aa (Ad (Ao U (Ao U (Ae U (Bw [ptr bd,ptr bp,.int .i64 frm] Ahm Aht ?_)))))));refine BN [ptr bd,ptr bp,.int .i64 frm] (.agg _) U U H ?_;rintro bt w - H;refine Bb U (Ac U (qA (Aw (BA (v1:=(.pointer _)) (v2:=(.int _ _)) U U U U ?_))));refine⟨H.ext,.inr ⟨fun h=>?_,bt,rfl,H.get at0,(H.own _ (qad ..)).elim (fun h=>by cases h) id⟩⟩;have h6:(decide (frm<0) || decide ((A.B.length:Int) - (P.length:Int)<frm))=true:=by simpa using h
  rw[hA]at h6;cases h6
abbrev CV:TypeId:=94
abbrev pgB(bp ba m:Nat):List (Nat × Obj):=[(bp,Bl TPg [.slice (some ⟨ba,0,none⟩) m m]),(ba,Bl TSt ((List.replicate m 0).map stv))]
theorem Ah5{w0 w:World}{S:List Nat}{L:List (Nat × Obj)}{bp ba m:Nat}(H:Ctx w0 S w (pgB bp ba m++L))(hm:m<=4096):PgAt w bp ba (List.replicate m 0):=by
 have hn:=H.nd;refine⟨by rw[H.get at0,qbc],H.get at1,fun e=>by simp[e]at hn,fun s hs=>by rw[(qdl.1 hs).2];decide,by rw[qbc];exact hm⟩
section
variable {w0 w:World}{b16 b2 b6 bs bd bm1 bm2 bsu bma m:Nat}{left:Int}{on:Bool}{gen:Nat}{o1 o2:Obj}{fv:List Value}
abbrev emB(b16 b2 b6 bs bd bm1 bm2 gen:Nat)(fv:List Value)(vp vt:Value)(o1 o2:Obj):List (Nat × Obj):=[(b16,Bl 46 fv),(b6,Bl 31 [ptr bs]),(bs,Bl CV (CK (ptr bd) EC vp vt gen (-1) bm1 bm2 0 false)),(bm2,o2),(bm1,o1),(b2,Bl 27 [ptr bd])]
theorem Yj(hd:w0.heap[bd]?=some (Bl TD (DB (m+362) bsu bma left on)))(hm:1<=m/\m<=4096)(H:Ctx w0 [] w (emB b16 b2 b6 bs bd bm1 bm2 gen fv EC EC o1 o2)) :
  Ret prog 77 #[ptr b2,ptr b6] w fun v w'=>v=.int .i64 0/\∃bp ba,Ctx w0 [] w' (emB b16 b2 b6 bs bd bm1 bm2 gen fv (ptr bp) EC o1 o2++pgB bp ba m):=by
 refine Ax (fn:=f77) func77 U [ptr b2,ptr b6] U ?_;refine Ad (Ac U (qA (BQ [([0,1],2),([3],4),([5,6,7,8,9],10),([],11)] (fun z=>(z.heap[b6]?=some (Bl 31 [ptr bs])/\z.heap[b2]?=some (Bl 27 [ptr bd]))) [10,11] mixed (⟨H.drew.get at1,H.drew.get at5⟩) ?_)));refine A7 U U (BO HJ U (fun _ hx=>(by rw[Au hx.1];rfl)) ?_);refine BO Cy U (fun _ hx=>(by rw[Au hx.2];rfl)) ?_;refine Bj ?_;replace H:=H.drew;refine Ah qB (Ga (H.ext.to hd (by simp))) U ?_;rintro v w ⟨rfl,rfl⟩;refine Ab (Be (⟨H.get at1,H.get at5⟩) (A7 U U ?_));refine HH U U U (Bj ?_);rw[show((m+362:Nat):Int) - 362=((m:Nat):Int)by omega];refine Ah qB (Aes m hm.1 hm.2 _) U ?_;rintro v w ⟨bp,ba,rfl,P,hx8,hbp,hba⟩
 replace H:Ctx w0 [] w (emB b16 b2 b6 bs bd bm1 bm2 gen fv EC EC o1 o2++pgB bp ba m):=H.callEnt hx8 (fun x hx=>by simp only[qaa,qaj,or_false]at hx;rcases hx with rfl|rfl;exact⟨by have:=P.hd;rw[qbc]at this;exact this,hbp⟩;exact⟨P.st,hba⟩) (by simpa using P.ne);refine Ab (Be (⟨H.get at1,H.get at5⟩) (A7 U U ?_));refine Ic U (BX U U (BX U U (Bg U (AF RN U (Bj (Bk (.pointer _) sz_89 U U U H at2 (by(simp;done)) ?_))))));rintro w H;refine Ab (CD U (A7 U U ?_));refine Bj (Ac U (Ab (CD U (B2 (Ad (Ae U (Ac U (qA (Aw (AE (v:=(.int _ _)) U U U ?_))))))))));exact⟨rfl,bp,ba,H⟩
abbrev trB(bt bd bp:Nat):List (Nat × Obj):=[(bt,Bl TT (Q1 bd bp 362))]
theorem Yk{bp ba:Nat}{F:Nat->Prop}{A:Dev}(D:DevAt w0 bd A F)(hl:A.B.length=m+362)(hm:1<=m/\m<=4096)(H:Ctx w0 [] w (emB b16 b2 b6 bs bd bm1 bm2 gen fv (ptr bp) EC o1 o2++pgB bp ba m)) :
  Ret prog 79 #[ptr b2,ptr b6] w fun v w'=>v=.int .i64 0/\∃bt,Ctx w0 [] w' (emB b16 b2 b6 bs bd bm1 bm2 gen fv (ptr bp) (ptr bt) o1 o2++(pgB bp ba m++trB bt bd bp)):=by
 have hp:∀{w':World} {S:List Nat},Ctx w0 S w' ((emB b16 b2 b6 bs bd bm1 bm2 gen fv (ptr bp) EC o1 o2)++pgB bp ba m)->PgAt w' bp ba (List.replicate m 0):=fun H=>Ah5 (L:=[]) (by rw[qa2];exact H.right) hm.2;refine Ax (fn:=f79) func79 U [ptr b2,ptr b6] U ?_;refine Ad (Ac U (qA (BQ [([0,1,2,3,4,5],6),([7,8,9,10,11],12),([],13)] (fun z=>(z.heap[b6]?=some (Bl 31 [ptr bs])/\z.heap[b2]?=some (Bl 27 [ptr bd])/\z.heap[bs]?=some (Bl CV (CK (ptr bd) EC (ptr bp) EC gen (-1) bm1 bm2 0 false)))) [12,13] mixed (⟨H.drew.get at1,H.drew.get at5,H.drew.get at2⟩) ?_)));refine A7 U U (BO HJ U (fun _ hx=>(by rw[Au hx.1];rfl)) ?_);refine BO Cy U (fun _ hx=>(by rw[Au hx.2.1];rfl)) ?_;refine BO HJ U (fun _ hx=>(by rw[Au hx.1];rfl)) ?_;refine Bg U (AF RN U (BO Od U (fun _ hx=>(by rw[Au hx.2.2];rfl)) ?_));refine Bj ?_
 replace H:=H.drew;refine Ah qB (Aet (D.keep0 H.ext) (hp H) 362 (by decide) (by decide)) U ?_;rintro v w ⟨hx10,hT⟩;obtain⟨-,bt,rfl,hbt,hbtw⟩:=hT.resolve_left (by(rintro⟨h,-⟩;rw[hl,qbc]at h;omega));replace H:Ctx w0 [] w (emB b16 b2 b6 bs bd bm1 bm2 gen fv (ptr bp) EC o1 o2++(pgB bp ba m++trB bt bd bp)):=(by rw[<-qa1];exact H.callEnt hx10 (fun x hx=>by rw[qab.1 hx];exact⟨hbt,hbtw⟩) (by simp));refine Ab (Be (⟨H.get at1,H.get at5,H.get at2⟩) (A7 U U ?_));refine Ic U (BX U U (BX U U (Bg U (AF RO U (Bj (Bk (.pointer _) sz_90 U U U H at2 (by(simp;done)) ?_))))));rintro w H;refine Ab (CD U (A7 U U ?_));refine Bj (Ac U (Ab (CD U (B2 (Ad (Ae U (Ac U (qA (Aw (AE (v:=(.int _ _)) U U U ?_))))))))));exact⟨rfl,bt,H⟩
def emI(w0:World)(b16 b2 b6 bs bd bm1 bm2 gen m:Nat)(fv:List Value)(o1 o2:Obj):Nat->World->Prop
 |0,w'=>Ctx w0 [] w' (emB b16 b2 b6 bs bd bm1 bm2 gen fv EC EC o1 o2)
 |1,w'=>∃bp ba,Ctx w0 [] w' (emB b16 b2 b6 bs bd bm1 bm2 gen fv (ptr bp) EC o1 o2++pgB bp ba m)
 |_,w'=>∃bp ba bt,Ctx w0 [] w' (emB b16 b2 b6 bs bd bm1 bm2 gen fv (ptr bp) (ptr bt) o1 o2++(pgB bp ba m++trB bt bd bp))
theorem Ah6{i:Nat}(h:emI w0 b16 b2 b6 bs bd bm1 bm2 gen m fv o1 o2 i w):w.heap[b16]?=some (Bl 46 fv):=by
 match i,h with
 |0,h=>exact h.get at0
 |1,⟨_,_,h⟩=>exact h.left.get at0
 |_+2,⟨_,_,_,h⟩=>exact h.left.get at0
theorem emAll{F:Nat->Prop}{A:Dev}(D:DevAt w0 bd A F)(hl:A.B.length=m+362)(hm:1<=m/\m<=4096)(H:Ctx w0 [] w (emB b16 b2 b6 bs bd bm1 bm2 gen [.func (.func 77) #[] #[ptr b2,ptr b6],.func (.func 79) #[] #[ptr b2,ptr b6]] EC EC o1 o2)) :
  Ret prog 37 #[.slice (some ⟨b16,0,none⟩) 2 2] w fun v w'=>∃e,v=.int .i64 e/\((e=0/\emI w0 b16 b2 b6 bs bd bm1 bm2 gen m [.func (.func 77) #[] #[ptr b2,ptr b6],.func (.func 79) #[] #[ptr b2,ptr b6]] o1 o2 2 w')\/(e≠0/\False)):=by
 obtain⟨dn,ds,hhd⟩:=D.hd;refine Abx (E:=fun _ _=>False) [.func (.func 77) #[] #[ptr b2,ptr b6],.func (.func 79) #[] #[ptr b2,ptr b6]] w (by simp) (I:=emI w0 b16 b2 b6 bs bd bm1 bm2 gen m _ o1 o2) H (fun i w' h=>Ah6 h) (fun v hv=>?_) (fun i f caps w' hi h=>?_)
 .simp only[qaa,qaj,or_false]at hv
  rcases hv with rfl|rfl <;> exact⟨_,_,rfl⟩
 .match i,hi,h with
  |0,hi,h =>
   cases hi;exact⟨by kernel_rfl,(Yj (by rw[<-hl];exact hhd) hm h).mono fun v w'' ⟨hv,hc⟩=>⟨0,hv,.inl ⟨rfl,hc⟩⟩⟩
  |1,hi,⟨bp,ba,h⟩ =>
   cases hi;exact⟨by kernel_rfl,(Yk D hl hm h).mono fun v w'' ⟨hv,hc⟩=>⟨0,hv,.inl ⟨rfl,bp,ba,hc⟩⟩⟩
theorem TY{F:Nat->Prop}{A:Dev}(w:World)(D:DevAt w bd A F)(hl:A.B.length=m+362)(hm:1<=m/\m<=4096)(gen:Nat) :
  Ret prog 36 #[ptr bd,.int .u64 (gen:Int)] w fun v w'=>∃bs bm1 bm2 o1 o2 bp ba bt,v=.tuple #[ptr bs,.int .i64 0]/\Ec str ([]:List (List UInt8 × Value)) o1/\Ec str ([]:List (List UInt8 × Value)) o2/\Ctx w [] w' ([(bs,Bl CV (CK (ptr bd) EC (ptr bp) (ptr bt) gen (-1) bm1 bm2 0 false)),(bm2,o2),(bm1,o1)]++(pgB bp ba m++trB bt bd bp)):=by
 obtain⟨w0,rfl,H⟩:=qE w;obtain⟨dn,ds,hhd⟩:=D.hd;refine Ax (fn:=f36) func36 U [ptr bd,.int .u64 (gen:Int)] U (Ad (BN _ (.pointer _) U U H ?_));rintro b2 w - H;refine Bb U (Ac U (qA (Ad (AG Cy U H at0 U (Ae U (Jc (κ:=List UInt8) str U H ?_))))));rintro b10 o10 w hM1 H;refine Jc (κ:=List UInt8) str U H ?_;rintro b11 o11 w hM2 H;refine Bw (CK (ptr bd) EC EC EC gen (-1) b10 b11 0 false) pl_94 zc_94 (BN (CK (ptr bd) EC EC EC gen (-1) b10 b11 0 false) (.agg _) U U H ?_);rintro bs w - H;refine Bf Aal H ?_;rintro b6 w - H;refine Bk (.pointer _) Aah U U U H at0 (by decide) ?_;rintro w H
 refine qA (Ad (Cl [.pointer _,.pointer _] U (Cl [.pointer _,.pointer _] U (BM [.func (.func 77) #[] #[ptr b2,ptr b6],.func (.func 79) #[] #[ptr b2,ptr b6]] Om W4 Aam H ?_))));rintro b16 w - H;refine Ah qB (emAll D hl hm H) U ?_;rintro v w ⟨e,rfl,he⟩;clear H;obtain⟨rfl,bp,ba,bt,H9⟩:=he.resolve_right (fun h=>h.2);have H:=H9.left;refine Ac U (qA (Ad (AG HJ U H at1 U (Ae U (Bb U (Ac U (qA (Aw (BA (v1:=(.pointer _)) (v2:=(.int _ _)) U U U U ?_)))))))));refine⟨bs,b10,b11,o10,o11,bp,ba,bt,rfl,hM1,hM2,H9.sub (fun x hx=>?_) ?_⟩
 .simp only[qat,qaa,qaj,or_false]at hx |-
  rcases hx with(h|h|h)|(h|h)|h <;> simp[h]
 .have h:=H9.nd;simp only[qb8,qa7,qbh,qaa]at h |-;simp_all
end
def blkI(n:Int):Int:=max 1 ((max n 0+480 - 1) / 480)+1
def blk(n:Nat):Nat:=max 1 ((n+479) / 480)+1
theorem GW(n:Nat):blkI (n:Int)=(blk n:Int):=by unfold blkI blk;omega
theorem Du(n:Nat):2<=blk n:=by unfold blk;omega
theorem M8(n:Nat):blk n<=n+2:=by unfold blk;omega
theorem ER(n:Int)(w:World)(h:n<=9000000000000000000:=by omega):Ret prog 45 #[.int .i64 n] w fun v w'=>v=.int .i64 (blkI n)/\w=w':=by
 refine Ax (fn:=f45) func45 U [.int .i64 n] U (Ad (Ac U (qA (Ad (Ae U (Nq U U U ?_))))));refine A8 U U (Bx U U ?_);refine NI U U U (show _<=(9223372036854775807:Int)by omega) (Nq U U U ?_);refine A8 U U (Ac U (qA (Aw (AE (v:=(.int _ _)) U U U ?_))));exact⟨rfl,rfl⟩
def Dp(m f z at':Int)(seq:Nat):Bool:=decide (0<=f) && (decide (2<=z) && (decide (z<=m) && (decide (f<=m - z) && (decide (0<=at') && (decide (at'<z) && (decide (1<=seq) && decide (seq<=4611686018427387904)))))))
def TZ(n:Nat)(c:UInt8):Byt:=(List.range n).map fun i=>c+UInt8.ofNat (i % 7)
theorem Q2(n:Nat)(c:UInt8):(TZ n c).length=n:=by simp[TZ]
structure Jr where
 frm:Nat
 size:Nat
 at':Nat
 seq:Nat
 taken:Nat
 dead:Bool
def TJ:Nat:=124
def JB(bd:Nat)(J:Jr):List Value:=[ptr bd,.int .i64 (J.frm:Int),.int .i64 (J.size:Int),.int .i64 (J.at':Int),.int .u64 (J.seq:Int),.int .i64 (J.taken:Int),.bool J.dead]
structure Jr.Ok(J:Jr):Prop where
 s1:2<=J.size
 s2:J.frm+J.size<=4096
 a:J.at'<J.size
 t:J.taken<=J.size
 q:J.seq<=9000000000000000000
def Jr.place(J:Jr)(i:Nat):Nat:=J.frm+(J.at'+i) % J.size
theorem Jr.Ok.place{J:Jr}(h:J.Ok)(i:Nat):J.place i<J.frm+J.size:=by
 have:=qbv (J.at'+i) (show 0<J.size by have:=h.s1;omega);unfold Jr.place;omega
theorem Q4{w:World}{bj bd:Nat}{J:Jr}(h:w.heap[bj]?=some (Bl TJ (JB bd J)))(hJ:J.Ok)(i:Nat)(hi:i<=1000000) :
  Ret prog 109 #[ptr bj,.int .i64 (i:Int)] w fun v w'=>v=.int .i64 (J.place i:Int)/\Ext [] w w':=by
 obtain⟨w0,rfl,H⟩:=qE w;have h1:=hJ.s1;have h2:=hJ.s2;have h3:=hJ.a;have hm:=qbv (J.at'+i) (show 0<J.size by omega);refine Ax (fn:=f109) func109 U [.pointer (some ⟨bj,0,none⟩),.int .i64 (i:Int)] U ?_;refine Ad (Ac U (qA (IV (fun x=>x=_) mixed U ?_)));refine FM U (Dx U (C4 Aaf U (Kr DE U (by rintro _ rfl;exact(Ctx.old0 H.drew (Au h _))) ?_)));refine FM U (Dx U (C4 Ld U (Kr DE U (by rintro _ rfl;exact(Ctx.old0 H.drew (Au h _))) ?_)));refine Hl U (PP U U U ?_);refine FM U (Dx U (C4 Lc U (Kr DE U (by rintro _ rfl;exact(Ctx.old0 H.drew (Au h _))) ?_)));refine q_rem U U U (by omega) (by omega) ?_;rw[show((J.at':Int)+(i:Int)) % (J.size:Int)=(((J.at'+i) % J.size:Nat):Int)by rw[Int.natCast_emod,Int.natCast_add]]
 refine PP U U U (EW U (Kf ?_));rintro _ rfl;replace H:=H.drew;refine Aw (AE (v:=(.int _ _)) U U U ?_);exact⟨qac (Value.int .i64) (by unfold Jr.place;omega),H.ext⟩
def Cp(q i:Nat)(p:Byt):Byt:=(AZ q 8++AZ i 4)++p
def Fw(q:Nat)(s:Byt):Byt:=(AZ q 8++AZ (blk s.length - 1) 4)++AZ s.length 4
theorem Ky(q i:Nat)(p:Byt):(Cp q i p).length=12+p.length:=by simp[Cp,AM];omega
theorem Ua(q:Nat)(s:Byt):(Fw q s).length=16:=by simp[Fw,AM]
theorem Ub(l:Byt)(n:Nat):Ku l n 4=l++AZ n 4:=by rw[Ku,show FX 4=true by decide];rfl
theorem Aby(l:Byt)(n:Nat):Ku l n 8=l++AZ n 8:=by rw[Ku,show FX 8=true by decide];rfl
theorem OT{w:World}{bj bd:Nat}{J:Jr}(h:w.heap[bj]?=some (Bl TJ (JB bd J)))(hJ:J.Ok)(i:Nat)(a:Option Addr)(c n:Nat)(p:Byt)(R:Rd w a 1 B8 p)(hn:p.length=n)(hi:i<=1000000:=by omega)(hm:n<=1000000:=by decide):
  Ret prog 111 #[ptr bj,.int .i64 (i:Int),.slice a n c] w fun v w'=>Fresh w w' 5 1 v ((Cp J.seq i p).map bv):=by
 subst hn;obtain⟨w0,rfl,H⟩:=qE w;have hq:=hJ.q;refine Ax (fn:=f111) func111 U [.pointer (some ⟨bj,0,none⟩),.int .i64 (i:Int),.slice a p.length c] U ?_;refine Ad (Ai U (qA (Ad (Ao U (AD U (Af Jg U (Bq FT U (Ctx.old0 H (Au h _)) ?_)))))));refine Ah qB (EP none 0 0 [] J.seq 8 w0 Rd.nil U (by omega)) U ?_;rintro v w F12;rw[Aby,qa7]at F12;obtain⟨a12,c12,rfl,R12,hc12⟩:=Fresh.rdB F12;rw[AM];refine Ae U (CR U EO Fy ?_);refine Ah qB (EP a12 c12 8 (AZ J.seq 8) i 4 w R12 (AM _ _) (by omega)) U ?_;rintro v w F15;rw[Ub]at F15;replace F15:=Fresh.since F15 F12.ext;obtain⟨a15,n15,c15,full15,rfl,O15,hb15⟩:=F15.ex;have hx15:=F15.ext;obtain rfl:n15=12:=by have h9:=O15.llen;rw[qan,qam,AM,AM]at h9;omega
 replace H:=(Ctx.start w0 []).callEnt hx15 hb15 IZ;refine Ai U (qA (Ad (Aj U (Aj U (Eu (L:=[]) U AO AO C0 Oe H3 U (p.map bv) U U H O15 (by simp) (GM p) (Rd.appB (R.ext0 H.ext)) ?_)))));rintro a18 c18 full18 w H O;rw[<-qa0]at O;refine Ai U (qA (Aw (AE (v:=(.slice _ _ _)) U U U ?_)));exact Ctx.fresh (L:=[]) H O
theorem Abz{w:World}{bj bd:Nat}{J:Jr}(h:w.heap[bj]?=some (Bl TJ (JB bd J)))(hJ:J.Ok)(a:Option Addr)(c n:Nat)(s:Byt)(hn:s.length=n)(hm:n<=1000000000000:=by omega):
  Ret prog 113 #[ptr bj,.slice a n c] w fun v w'=>Fresh w w' 5 1 v ((Fw J.seq s).map bv):=by
 subst hn;obtain⟨w0,rfl,H⟩:=qE w;have hq:=hJ.q;have hb2:=Du s.length;have hb3:=M8 s.length;refine Ax (fn:=f113) func113 U [.pointer (some ⟨bj,0,none⟩),.slice a s.length c] U ?_;refine Ad (Ai U (qA (Ad (Ao U (AD U (Af Jg U (Bq FT U (Ctx.old0 H (Au h _)) ?_)))))));refine Ah qB (EP none 0 0 [] J.seq 8 w0 Rd.nil U (by omega)) U ?_;rintro v w F10;rw[Aby,qa7]at F10;obtain⟨a10,c10,rfl,R10,hc10⟩:=Fresh.rdB F10;rw[AM];refine Aj U (AP AO U (Ah qB (ER (s.length:Int) w) U ?_));rintro v w ⟨rfl,rfl⟩;rw[GW];refine Bx U U ?_;rw[show((blk s.length:Int) - 1)=((blk s.length - 1:Nat):Int)by omega];refine CR U EO Fy (Ah qB (EP a10 c10 8 (AZ J.seq 8) (blk s.length - 1) 4 _ R10 (AM _ _) (by omega)) U ?_)
 rintro v w F16;rw[Ub]at F16;replace F16:=Fresh.since F16 F10.ext;obtain⟨a16,c16,rfl,R16,hc16⟩:=Fresh.rdB F16;rw[qam,AM,AM];refine Ai U (qA (Ad (Aj U (Aj U (AP AO U (CR U EO Fy ?_))))));refine Ah qB (EP a16 c16 12 (AZ J.seq 8++AZ (blk s.length - 1) 4) s.length 4 _ R16 (by rw[qam,AM,AM]) (by omega)) U ?_;rintro v w F21;rw[Ub]at F21;obtain⟨a21,n21,c21,full21,rfl,O21,hb21⟩:=F21.ex;refine Ai U (qA (Aw (AE (v:=(.slice _ _ _)) U U U ?_)));exact Fresh.since F21 F16.ext
theorem Uc{w:World}(a b:Option Addr)(c d n m:Nat)(x y:Byt)(Rx:Rd w a 1 B8 x)(Ry:Rd w b 1 B8 y)(hn:x.length=n)(hm:y.length=m) :
  Ret prog 112 #[.slice a n c,.slice b m d] w fun v w'=>v=.bool (decide (x=y))/\w=w':=by
 subst hn hm;refine Ax (fn:=f112) func112 U [.slice a x.length c,.slice b y.length d] U (Ad (Am U (qA (Ad (Aj U (Ie (l:=x) AO Gz Fp U Rx ?_))))));refine Aj U (Ie (l:=y) AO Gz Fp U Ry ?_);refine NT (l:=x) (m:=y) U U U (Am U (qA (Aw (AE (v:=(.bool _)) U U U ?_))));exact⟨rfl,rfl⟩
def OU(x y:Byt):Bool:=decide (y.length<=x.length) && decide (x.take y.length=y)
theorem Yl{w:World}(a b:Option Addr)(c d n m:Nat)(x y:Byt)(Rx:Rd w a 1 B8 x)(Ry:Rd w b 1 B8 y)(hn:x.length=n)(hm:y.length=m)(hc:n<=c) :
  Ret prog 110 #[.slice a n c,.slice b m d] w fun v w'=>v=.bool (OU x y)/\w=w':=by
 subst hn hm;refine Ax (fn:=f110) func110 U [.slice a x.length c,.slice b y.length d] U (Ad (Am U (qA (Ad (Aj U (AP AO U (Aj U (AP AO U (Hv U U (A4 U ?_))))))))));refine AU 10 U ?_ ?_
 .intro h1;replace h1:=AV h1;have hl:y.length<=x.length:=by omega
  refine Aj U (Aj U (AP AO U (DP AO C0 U U ?_)));refine Aj U (Ah qB (Uc a b c d y.length y.length (x.take y.length) y (Rx.take _) Ry (by rw[qay];omega) U) U ?_);rintro v w ⟨rfl,rfl⟩;refine AR U (.bool _) U (Am U (qA (Aw (AE (v:=(.bool _)) U U U ?_))));exact⟨by rw[OU,qai hl];rfl,rfl⟩
 .intro h1;replace h1:=AW h1;refine Ak U (Ak U (Ak U (Ak U (Ak U (Ak U (AJ U (.bool _) U (Am U (qA (Aw (AE (v:=(.bool _)) U U U ?_))))))))));exact⟨by rw[OU,qag (show ¬y.length<=x.length by omega)];rfl,rfl⟩
def LF(A:Dev)(J:Jr)(i:Nat)(k:UInt8)(b:Byt):Int:=CS A (J.place i:Int) (CY k b)
def Iu(A:Dev)(J:Jr)(i:Nat)(k:UInt8)(b:Byt):Dev:=Cf A (J.place i:Int) (CY k b)
theorem WI{w:World}{bj bd:Nat}{J:Jr}{A:Dev}{F:Nat->Prop}(h:w.heap[bj]?=some (Bl TJ (JB bd J)))(hJ:J.Ok)(i:Nat)(k:UInt8)(a:Option Addr)(c n:Nat)(b:Byt)(R:Rd w a 1 B8 b)(hn:b.length=n)(hm:n<=505)(hlt:∀x,F x->x<w.heap.size)(hFj:¬F bj){mx:Nat}(hfew:Few A mx)(DA:DevAt w bd A F)(hi:i<=1000000:=by omega)(hk:k.toNat≠0:=by decide)(hmx:mx<=1000000000000:=by omega):
  Ret prog 118 #[ptr bj,.int .i64 (i:Int),bv k,.slice a n c] w fun v w'=>v=.int .i64 (LF A J i k b)/\DevAt w' bd (Iu A J i k b) (grow F w w')/\Turn F w w':=by
 subst hn;obtain⟨w0,rfl⟩:=qD w
 have hse:F4 k b=0:=by
  rw[F4,qag hk,qag (by omega)];rfl
 have h5:(CY k b).length=512:=En hm;refine Ax (fn:=f118) func118 U [.pointer (some ⟨bj,0,none⟩),.int .i64 (i:Int),bv k,.slice a b.length c] U ?_;refine Ad (Ac U (qA (Ad (B4 (bv k) U ?_))));refine Aj U (Ah qB (RX k a c _ _ _ R U) U ?_);rintro v w P14;rw[Jl,hse]at P14;obtain⟨s14,rfl,B14⟩:∃s,v=.tuple #[s,.int .i64 0]/\Bytes _ w s (CY k b):=(P14.elim (fun h=>absurd rfl h.1) fun h=>h.2);obtain⟨a14,c14,rfl,R14,hc14,hn14⟩:=B14.ex;have hx:=B14.ext;have DA1:=DA.keep0 hx;rw[h5];have hj1:w.heap[bj]?=some (Bl TJ (JB bd J)):=by rw[hx.block bj (Al h) (by simp)];exact h
 refine AL U (Ag U U (Ag U U (Ai U (Ac U (qA (Aq (Ad (Ae U (AN U U ?_)))))))));refine qA (Br U (Ap (Aa (BQ [([0,1,2,3,4,5,7],6),([],8),([],9)] (fun z=>z.heap[bj]?=some (Bl TJ (JB bd J))) [] mixed (hj1) ?_))));refine A7 U U (CP U (Bg U (AF KZ U (BO Cy U (fun _ hx=>Au hx (0+0)) ?_))));refine CP U (BI U (Ca U (Bj ?_)))
 skip
 refine Ah qB (Q4 (show(World.drew w).heap[bj]?=_ from hj1) hJ i hi) U ?_;rintro v w8 ⟨rfl,hx8⟩;have DA2:=(DA1.keep0 (Ext.drew [] w)).keep0 hx8;have R15:=(R14.ext0 (Ext.drew [] w)).ext0 hx8;have hj8:w8.heap[bj]?=some (Bl TJ (JB bd J)):=by rw[hx8.block bj (Al hj1) (by simp)];exact hj1
 refine Ab (Be (hj8) (A7 U U ?_));refine Bj (Ah qB (Mr (J.place i:Int) a14 c14 512 (CY k b) R15 h5 (.inr fun h=>by have:=hlt _ h;omega) hfew (hmx:=hmx) DA2) U ?_);rintro v w9 ⟨rfl,DA3,hT⟩;have hj9:w9.heap[bj]?=some (Bl TJ (JB bd J)):=by obtain⟨S,hS,hx9⟩:=hT;rw[hx9.block bj (Al hj8) (fun h=>hFj (hS _ h))];exact hj8
 refine Ab (Be (hj9) (A7 U U ?_));refine Bj (Ac U (Ab (Be (hj9) (B2 (Aw (AE (v:=(.int _ _)) U U U ?_))))));have hxx:=(hx.trans (Ext.drew [] w)).trans hx8;exact⟨rfl,DA3.mono (TF hxx.size),Turn.trans (.of0 hxx) hT fun x h => .inl h⟩
abbrev tpC(root:Int)(p q:Nat):List Value:=[.int .i64 root,.int .i64 (p:Int),.int .u64 (q:Int)]
def tpB(root:Int)(p q:Nat):Byt:=AZ (root+1).toNat 4++(AZ p 4++AZ q 8)
theorem EI(root:Int)(p q:Nat):(tpB root p q).length=16:=by simp[tpB,AM]
theorem Aeu(root:Int)(p q:Nat)(w:World)(hr : -1<=root/\root<=4294967294)(hp:p<4294967296)(hq:q<18446744073709551616) :
  Ret prog 40 #[.agg (tpC root p q).toArray] w fun v w'=>Fresh w w' 5 1 v ((tpB root p q).map bv):=by
 obtain⟨w0,rfl⟩:=qD w;obtain⟨n,hn⟩:∃n:Nat,root+1=n:=⟨(root+1).toNat,by omega⟩;have H:=Ctx.start w0 [];refine Ax (fn:=f40) func40 U [.agg (tpC root p q).toArray] U (Ad (BN (tpC root p q) (.agg _) U U H ?_));rintro b1 w - H;refine Ai U (qA (Ad (Af W1 U (AG DE U H at0 U (A8 U U ?_)))));rw[hn];refine CR U EO Fy (Ah qB (EP none 0 0 [] n 4 _ Rd.nil U (by omega)) U ?_);rintro v w F;rw[Ub,qa7]at F;obtain⟨a8,n8,c8,f8,rfl,O8,h8⟩:=F.ex;obtain rfl:n8=4:=(by have:=O8.llen;rw[qan,AM]at this;omega);replace H:=H.callEnt F.ext h8 IZ;refine Ai U (qA (Ad (Aj U (Af Lh U (AG DE U H at0 U (CR U EO Fy ?_))))))
 refine Ah qB (EP a8 c8 4 (AZ n 4) p 4 _ (OS.rdB O8 fun x hx=>H.blk x (qaz _ hx)) (AM _ _) (by omega)) U ?_;rintro v w F2;rw[Ub]at F2;obtain⟨a13,n13,c13,f13,rfl,O13,h13⟩:=F2.ex;obtain rfl:n13=8:=(by have:=O13.llen;rw[qan,qam,AM,AM]at this;omega);replace H:=H.callEnt F2.ext h13 IZ;refine Ai U (qA (Ad (Aj U (Af Ik U (AG FT U H at0 U (Ah qB (EP a13 c13 8 (AZ n 4++AZ p 4) q 8 _ (OS.rdB O13 fun x hx=>H.blk x (qaz _ hx)) (by rw[qam,AM,AM]) hq) U ?_))))));rintro v w F3;rw[Aby,qa1]at F3;have hx0:=H.ext;obtain⟨a17,n17,c17,f17,rfl,O17,h17⟩:=F3.ex;refine Ai U (qA (Aw (AE (v:=(.slice _ _ _)) U U U ?_)));have hb:tpB root p q=AZ n 4++(AZ p 4++AZ q 8):=by unfold tpB;rw[hn];rfl
 rw[hb];exact Fresh.since F3 hx0
def tpR(b:Byt):List Value:=if b.length=16 then tpC ((numN (b.take 4):Int) - 1) (numN ((b.drop 4).take 4)) (numN ((b.drop 8).take 8))else tpC 0 0 0
theorem V5{b:Byt}(h:b.length=16)(p k:Nat)(hk:k=4\/k=8)(hp:p+k<=16:=by decide):EB b (p:Int) (k:Int)=.tuple #[.int .u64 (numN ((b.drop p).take k):Int),.int .i64 ((p:Int)+(k:Int)),.int .i64 0]:=by
 have:Cz b (p:Int) (k:Int)=0:=by
  unfold Cz;rw[qai (show(0:Int)<=(p:Int)by omega),qai (show(p:Int)<=(b.length:Int)by omega),qai (show(k:Int)<=(b.length:Int) - (p:Int)by omega)]
  rcases hk with rfl|rfl <;> rfl
 unfold EB;rw[this];rfl
theorem WJ{b:Byt}(k:Nat)(l:Byt)(hl:l=b.take k)(hk:k<=4:=by decide):numN l<4294967296:=by
 subst hl;have h1:=Il (b.take k);have h2:(b.take k).length<=4:=by rw[qay];omega
 have h3:256 ^ (b.take k).length<=256 ^ 4:=qcl (by omega) h2;have h4:(256:Nat) ^ 4=4294967296:=by decide
 omega
theorem Ud(a:Option Addr)(c:Nat)(b:Byt)(w:World)(R:Rd w a 1 B8 b)(hc:b.length<=c)(_:b.length<=100000:=by omega):
  Ret prog 33 #[.slice a b.length c] w fun v w'=>v=.tuple #[.agg (tpR b).toArray,.bool (decide (b.length=16))]/\Ext [] w w':=by
 obtain⟨w0,rfl,H⟩:=qE w;refine Ax (fn:=Tryz.f33) func33 U [.slice a b.length c] U (Ad (Bf Qj H ?_));rintro b2 w - H;refine Am U (qA (Aq (Ad (Aj U (AP AO U (AN U U (qA (Ar _ U ?_ ?_))))))))
 .intro h1;replace h1:=Bh h1;have h1:¬b.length=16:=fun h=>h1 (by omega);refine Ad (BH Wx Li U H at0 U (Bc Li U U U (by simp[AX]) H at0 U ?_));rintro w H;refine Am U (qA (Aw (An (CE U U U Wx Li H at0 U (show _=(.bool _)from rfl) ?_))));exact⟨by rw[tpR,if_neg h1,qag h1];rfl,H.ext⟩
 .intro h1;replace h1:=Bi h1;have h1:b.length=16:=by omega
  have n1:=WJ (b:=b) 4 _ rfl;have n2:=WJ (b:=b.drop 4) 4 _ rfl;refine Ap (Aa (Ad (Aj U (Ah qB (Fq a c _ b ((0:Nat):Int) ((4:Nat):Int) _ (R.ext0 H.ext) U hc) U ?_))));rintro v w ⟨rfl,hx19⟩;replace H:=H.call hx19;rw[V5 h1 0 4 (.inl rfl),List.drop_zero];refine AL U (Ag U U (Ag U U (Ag U U (Ac U (Ac U (Ac U (qA (Ad (Aj U ?_)))))))));refine Ah qB (Fq a c _ b ((4:Nat):Int) ((4:Nat):Int) _ (R.ext0 H.ext) U hc) U ?_;rintro v w ⟨rfl,hx25⟩;replace H:=H.call hx25;rw[V5 h1 4 4 (.inl rfl)];refine AL U (Ag U U (Ag U U (Ag U U (Ac U (Ac U (Ac U (qA (Ad (Aj U ?_)))))))));refine Ah qB (Fq a c _ b ((8:Nat):Int) ((8:Nat):Int) _ (R.ext0 H.ext) U hc) U ?_;rintro v w ⟨rfl,hx31⟩;replace H:=H.call hx31;rw[V5 h1 8 8 (.inr rfl)]
  refine AL U (Ag U U (Ag U U (Ag U U (Ac U (Ac U (Ac U (qA (Ad (Ae U ?_)))))))));refine DQ U Fy EO (Bx U U ?_);refine Ae U (DQ U Fy EO ?_);refine Ae U (Bw (tpC ((numN (b.take 4):Int) - 1) (numN ((b.drop 4).take 4)) (numN ((b.drop 8).take 8))) Agg Qj ?_);refine Bc Li U U U (by simp[AX]) H at0 U ?_;rintro w H;refine Am U (qA (Aw (CE U U U Wx Li H at0 U (show _=(.bool _)from rfl) ?_)));exact⟨by rw[tpR,if_pos h1,qai h1],H.ext⟩
theorem Ym{b:Byt}{i:Bool}{l:List It}(h:DK b=some (i,l)):l≠[]:=by
 unfold DK at h
 split at h
 .unfold TQ at h
  split at h
  .split at h
   .rename_i h5
    injection h with h;injection h with h6 h7
    rw[<-h7];exact h5.2
   .cases h
  .cases h
 .cases h
theorem OV{i:Bool}{b:Byt}:∀{n at':Nat} {r:List It × Nat},Ed i b n at'=some r->r.1.length=n
 |0,at',r,h=>by cases h;rfl
 |n+1,at',r,h=>by
  cases h1:Kx i b at' with
  |none=>rw[MW h1]at h;cases h
  |some x =>
   obtain⟨x,m⟩:=x;rw[MX h1]at h
   cases h2:Ed i b n m with
   |none=>rw[h2]at h;cases h
   |some r2 =>
    rw[h2]at h;cases h;show r2.1.length+1=n+1;rw[OV h2]
theorem V6{b:Byt}{i:Bool}{l:List It}(h:DK b=some (i,l)):l.length<=65535:=by
 unfold DK at h
 split at h
 .unfold TQ at h
  split at h
  .rename_i r hr
   split at h
   .injection h with h;injection h with h6 h7
    have h8:=OV hr;have h9:=Il ((Cg b).take 2);have h10:256 ^ ((Cg b).take 2).length<=256 ^ 2:=qcl (by omega) (by rw[qay];omega);rw[<-h7,h8];omega
   .cases h
  .cases h
 .cases h
theorem Er{A:Dev}{fr sz:Nat}{page depth:Int}{i:Bool}{l:List It}(h:(CM A fr sz page depth).2=some (i,l)):(CM A fr sz page depth).1=0/\l≠[]/\depth<=16/\0<=page/\page<(sz:Int)/\l.length<=65535:=by
 unfold CM at h |-
 split at h
 .cases h
 .rename_i h1
  rw[if_neg h1]
  split at h
  .rename_i h2
   rw[if_pos h2]
   split at h
   .cases h
   .rename_i n hn
    injection h with h
    subst h;exact⟨rfl,Ym hn,by omega,by omega,by omega,V6 hn⟩
  .cases h
theorem GX{A:Dev}{fr sz:Nat}{page depth:Int}(h:(CM A fr sz page depth).2=none):(CM A fr sz page depth).1≠0:=by
 unfold CM at h |-
 split
 .decide
 .rename_i h1
  rw[if_neg h1]at h
  split
  .rename_i h2
   rw[if_pos h2]at h
   split
   .decide
   .rename_i n hn
    rw[hn]at h;cases h
  .rename_i h2;exact h2
theorem M9{l:List It}(h:l≠[])(key:Byt):BR l key<l.length:=by
 unfold BR
 have h1:=qe1 (l:=l.tail) (fun x:It=>decide (Ds x.key key<=0)) |>.length_le
 have h2:=qbs.2 h;rw[qes]at h1;omega
theorem V7(L:List It)(key:Byt):∀(n i j:Nat),j - i<=n->i<=j->i<=bsN L key i j/\bsN L key i j<=j
 |0,i,j,h,hij=>by rw[L6];omega
 |n+1,i,j,h,hij=>by
  by_cases hlt:i<j
  .rw[V3 hlt]
   split
   .have:=V7 L key n ((i+j) / 2+1) j (by omega) (by omega);omega
   .have:=V7 L key n i ((i+j) / 2) (by omega) (by omega);omega
  .rw[L6];omega
theorem MA(L:List It)(key:Byt):Cd L key<=L.length:=(V7 L key _ 0 L.length (qae _) (qal _)).2
theorem Kz{L:List It}{key:Byt}(h:Ee L key=true):∃x,L[Cd L key]?=some x/\x.key=key:=by
 unfold Ee at h
 cases hx:L[Cd L key]? with
 |none=>rw[hx]at h;cases h
 |some x=>rw[hx]at h;exact⟨x,rfl,Nx (qc0 h)⟩
def Gs(sz root:Int):Int:=if root < -1\/sz<=root then 1 else 0
def Dl(k v:Nat):Bool:=decide (1<=k) && (decide (k<=32) && decide (v<=128))
def Ue(A:Dev)(fr sz:Nat)(key:Byt):Nat->Int->Int->Int × Option Byt
 |0,_,_=>(9,none)
 |n+1,page,depth =>
  if page = -1 then(0,none)else match(CM A fr sz page depth).2 with
  |none=>((CM A fr sz page depth).1,none)
  |some (true,l)=>Ue A fr sz key n (((l[BR l key]?.map (·.page)).getD 0:Nat):Int) (depth+1)
  |some (false,l)=>if Ee l key=true then(0,some ((l[Cd l key]?.map (·.val)).getD []))else(0,none)
def LG(A:Dev)(fr sz:Nat)(root:Int)(key:Byt):Int × Option Byt :=
 if Gs sz root≠0 then(1,none)else if Dl key.length 0=true then Ue A fr sz key 18 root 0 else(1,none)
theorem Q5(a b:Option Addr)(n m c d:Nat)(w:World):Ret prog 126 #[.slice a n c,.slice b m d] w fun v w'=>v=.bool (Dl n m)/\w=w':=by
 obtain⟨w0,rfl⟩:=qD w;refine Ax (fn:=f126) func126 U [.slice a n c,.slice b m d] U (Ad (Am U (qA (Ad (Aj U (AP AO U (Hv U U (A4 U (AU 8 U ?_ ?_)))))))))
 .intro h1;replace h1:=AV h1;refine Aj U (AP AO U (Rh U U U (AR U (.bool _) U (A4 U (AU 13 U ?_ ?_)))))
  .intro h2;replace h2:=AV h2;refine Aj U (AP AO U (Rh U U U (AR U (.bool _) U (Am U (qA (Aw (AE (v:=(.bool _)) U U U ?_)))))));exact⟨qac Value.bool (by unfold Dl;rw[qap];simp;omega),rfl⟩
  .intro h3;replace h3:=AW h3;refine Ak U (Ak U (Ak U (AJ U (.bool _) U (Am U (qA (Aw (AE (v:=(.bool _)) U U U ?_)))))));exact⟨qac Value.bool (by unfold Dl;rw[qap];simp;omega),rfl⟩
 .intro h4;replace h4:=AW h4;refine Ak U (Ak U (Ak U (AJ U (.bool _) U (A4 U (Ak U (Ak U (Ak U (AJ U (.bool _) U (Am U ?_)))))))));refine qA (Aw (AE (v:=(.bool _)) U U U ?_));exact⟨qac Value.bool (by unfold Dl;rw[qap];simp;omega),rfl⟩
section
variable {w:World}{bt bd bp ba fr:Nat}{A:Dev}{P:List Nat}{F:Mut}{L:List (Nat × Obj)}
theorem Ny(T:Tx w bt bd bp ba fr A P F L)(root:Int):Ret prog 123 #[ptr bt,.int .i64 root] w fun v w'=>v=.int .i64 (Gs P.length root)/\w=w':=by
 obtain⟨w0,rfl⟩:=qD w;refine Ax (fn:=f123) func123 U [.pointer (some ⟨bt,0,none⟩),.int .i64 root] U ?_;refine Ad (Ac U (qA (Aq (AB (Ad (Ao U (BC un_90 U ?_)))))));refine Am U (qA (Br U (Ad (B5 (α:=Unit) 1048320 (fun _=>[(8,.bool (decide (root < -1) || decide ((P.length:Int)<=root)))]) (fun _ w'=>w0=w') U ?_ ?_))))
 .refine Ae U (Bp U U (A4 U (AU 11 U ?_ ?_)))
  .intro h1;replace h1:=AV h1;refine Ak U (Ak U (Ak U (Ak U (Ak U (Ak U (Ak U (AR U (.bool _) U (Am U (Ab ?_)))))))));exact⟨rfl,(),rfl,⟨qac Value.bool (by rw[qap];simp;omega),trivial⟩,rfl⟩
  .intro h2;replace h2:=AW h2;refine Ae U (Ao U (AD U (Af Jh U (Bq Od U (Au T.tr (0+1)) ?_))));refine Ah qB (OQ T.pg) U ?_;rintro v w ⟨rfl,rfl⟩;refine Hv U U (AJ U (.bool _) U (Am U (Ab ?_)));exact⟨rfl,(),rfl,⟨qac Value.bool (by rw[qap];simp;omega),trivial⟩,rfl⟩
 rintro - j8 w rfl;refine Ar _ U ?_ ?_
 .intro h1;refine Ad (Ac U (qA (Aw (AK (An (AE (v:=(.int _ _)) U U U ?_))))));exact⟨by rw[Gs,if_pos (by simpa using h1)],rfl⟩
 .intro h1;have hn1:¬(root < -1\/(P.length:Int)<=root):=(by intro h5;have h6:(decide (root < -1) || decide ((P.length:Int)<=root))=true:=(by simpa using h5);rw[h1]at h6;cases h6);refine Ap (AH (Aa (Ad (Ac U (qA (Aw (AE (v:=(.int _ _)) U U U ?_)))))));exact⟨by rw[Gs,if_neg hn1],rfl⟩
theorem Sl{A:Dev}{fr sz:Nat}{key:Byt}{n:Nat}{page depth:Int}:Ue A fr sz key (n+1) page depth=if page = -1 then(0,none)else match(CM A fr sz page depth).2 with
  |none=>((CM A fr sz page depth).1,none)
  |some (true,l)=>Ue A fr sz key n (((l[BR l key]?.map (·.page)).getD 0:Nat):Int) (depth+1)
  |some (false,l)=>if Ee l key=true then(0,some ((l[Cd l key]?.map (·.val)).getD []))else(0,none):=by rw[Ue]
theorem WK(T:Tx w bt bd bp ba fr A P F L)(hfr:fr<=5000)(root:Int)(hr : -9223372036854775808<=root/\root<=9223372036854775807)(ka:Option Addr)(kc kn:Nat)(key:Byt)(Rk:Rd w ka 1 B8 key)(hk:key.length=kn){mx:Nat}(hfew:Few A mx)(hmx:mx<=1000000000:=by omega):
  Ret prog 148 #[ptr bt,.int .i64 root,.slice ka kn kc] w fun v w'=>∃va vc u,v=.tuple #[.slice va (List.length u) vc,.bool (LG A fr P.length root key).2.isSome,.int .i64 (LG A fr P.length root key).1]/\Ext [] w w'/\Rdx w' (Old w) va u/\u.length<=vc/\u=(LG A fr P.length root key).2.getD []:=by
 subst hk;obtain⟨w0,rfl⟩:=qD w;obtain⟨rg,hrg⟩:=qD (LG A fr P.length root key);rw[<-hrg];unfold LG at hrg;refine Ax (fn:=f148) func148 U [.pointer (some ⟨bt,0,none⟩),.int .i64 root,.slice ka key.length kc] U ?_;refine Ad (Ai U (Am U (Ac U (qA (Aq (Ad (Ao U (Ae U (Ah qB (Ny T root) U ?_)))))))));rintro v w ⟨rfl,rfl⟩;refine Ac U (qA (Ad (Ae U (AN U U (qA (Ar _ U ?_ ?_))))))
 .intro h1;replace h1:=Bh h1;rw[if_pos h1]at hrg;have he:Gs P.length root=1:=by unfold Gs at h1 |-;split <;> simp_all
  refine Ad (Ae U (Ai U (Am U (Ac U (qA (Aw (An (Ci (v1:=(.slice _ _ _)) (v2:=(.bool _)) (v3:=(.int _ _)) U U U U U ?_))))))));exact⟨none,0,[],by rw[hrg,he];rfl,.refl _ _,Rdx.nil,qae _,by rw[hrg];rfl⟩
 .intro h1;replace h1:=Bi h1;rw[if_neg (by simpa using h1)]at hrg;refine Ap (Aa (Aq (Ad (Aj U (Ah qB (Q5 ka none _ 0 kc 0 _) U ?_)))));rintro v w ⟨rfl,rfl⟩;refine Cc U (qA (Ar _ U ?_ ?_))
  .intro h2;replace h2:=Cs h2;rw[if_neg (by simpa using h2)]at hrg;refine Ad (Ai U (Am U (Ac U (qA (Aw (An (Ci (v1:=(.slice _ _ _)) (v2:=(.bool _)) (v3:=(.int _ _)) U U U U U ?_)))))));exact⟨none,0,[],by rw[hrg];rfl,.refl _ _,Rdx.nil,qae _,by rw[hrg];rfl⟩
  .intro h2;replace h2:=Cu h2;rw[if_pos (by simpa using h2)]at hrg;refine Ap (Aa (Aq (Ad (Ae U (Ac U (Ac U (qA (AB (BE 73786976294771162560 (α:=Int × Nat) (fun s=>[(10,.int .i64 s.1),(11,.int .i64 (s.2:Int))]) (fun s w'=>Ext [] w0 w'/\s.2<=17/\(-9223372036854775808<=s.1/\s.1<=9223372036854775807)/\Ue A fr P.length key (18 - s.2) s.1 (s.2:Int)=rg) (fun s=>18 - s.2) (root,0) U ?_ ?_ ?_)))))))))
   .exact⟨rfl,rfl,trivial⟩
   .exact⟨.refl _ _,qal _,hr,hrg.symm⟩
   .rintro⟨page,d⟩ j w ⟨hx,hd,hpg,hg⟩;dsimp only at hx hd hpg hg;dsimp only;rw[show 18 - d=(17 - d)+1 by omega,Sl]at hg;refine Aq (Ad (Ae U (AN U U (qA (Ar _ U ?_ ?_)))))
    .intro h3;replace h3:=Bh h3;rw[if_neg (by simpa using h3)]at hg;have Tw:=T.call hx;refine Ap (Aa (Aq (AB (Ad (Ao U (Ae U (Ae U (Ah qB (OR Tw hfr page (d:Int) hpg hfew hmx) U ?_))))))));rintro v w2 ⟨inner,aa,nn,cc,rfl,hx34,hits⟩;have H:=Ctx.start w2 [];refine AL U (Ag U U (Ag U U (Bf CJ H ?_)));rintro b12 w - H;refine Bc Bm U U U (by simp[AX]) H at0 U ?_;rintro w H;refine Ac U (qA (Aq (Ad (Ae U (AN U U (qA (Ar _ U ?_ ?_)))))))
     .intro h4;replace h4:=Bh h4
      have hnone:(CM A fr P.length page (d:Int)).2=none:=by
       cases h5:(CM A fr P.length page (d:Int)).2 with
       |none=>rfl
       |some r=>obtain⟨i,l⟩:=r;exact absurd (Er h5).1 (by simpa using h4)
      rw[hnone]at hg;dsimp only at hg;refine Ad (Ae U (Ai U (Am U (Ac U (qA (Aw (An (AK (An (An (AK (An (Ci (v1:=(.slice _ _ _)) (v2:=(.bool _)) (v3:=(.int _ _)) U U U U U ?_)))))))))))));exact⟨none,0,[],by rw[<-hg];rfl,hx.trans (hx34.trans H.ext),Rdx.nil,qae _,by rw[<-hg];rfl⟩
     .intro h4;replace h4:=Bi h4
      obtain⟨⟨i,l⟩,hsome⟩:∃r,(CM A fr P.length page (d:Int)).2=some r:=by
       cases h5:(CM A fr P.length page (d:Int)).2 with
       |none=>exact absurd (by simpa using h4) (GX h5)
       |some r=>exact⟨r,rfl⟩
      obtain⟨-,hne,hd16,-,-,hll⟩:=Er hsome;obtain⟨rfl,I,hb⟩:=hits i l hsome;rw[hsome]at hg;have hxw:=hx.trans hx34;have hnum:=I.num;refine Ap (Aa (Aq (Ad (Af Dh U (AG Gp U H at0 U (qA (Ar _ U ?_ ?_)))))))
      .intro h5;subst h5;dsimp only at hg;have hb12:=H.get at0;have hx12:=H.ext;obtain⟨wr,rfl⟩:=qD w;have hkeep:∀{z:World},Ext [] wr z->z.heap[b12]?=some (Bl 183 [.bool true,.slice aa nn cc]):=fun{z} h=>by rw[h.block b12 (Al hb12) (by simp)];exact hb12
       have Ir:=I.call hx12;obtain⟨ms,R,-,hl,hok⟩:=Ir.ex;have hml:ms.length=nn:=by rw[hnum,<-hl,qan]
       have hbl:=M9 hne key;obtain⟨x,hx1⟩:=AY (l:=ms) (i:=BR l key);have hxL:=Im.at hl hx1;have hxb:=hb x.it (qaf hxL);rw[hxL]at hg;simp only[qbd,qda]at hg;have hRR:∀{z:World},Ext [] wr z->Rd z aa 3 Im.enc ms:=fun{z} h=>R.ext0 h;have hx0r:Ext [] w0 wr:=hxw.trans hx12;refine BQ [([0,1,2,3,4],5),([6,7,8],9)] (fun z=>Ext [] wr z) [] mixed (Ext.drew [] wr) (A7 U U ?_);refine AF B0 U (BO BV U (fun _ hx=>Au (hkeep hx) (0+1)) ?_);refine AF B0 U (BO BV U (fun _ hx=>Au (hkeep hx) (0+1)) ?_);refine Ca U (Bj ?_)
       skip
       refine Ah qB (TS (Ir.call (Ext.drew [] wr)) ka kc _ key (Rk.ext0 (hx0r.trans (Ext.drew [] wr))) U) U ?_;rintro v w5 ⟨rfl,rfl⟩;refine Ab (Be ((Ext.drew [] wr)) (A7 U U ?_));refine DH R Bu Bn U U (AF Fm U (BO DE U (fun _ hx=>(hRR hx).fld hx1 rfl (j:=2) rfl) ?_));refine Bj (Ac U (Ab (Be ((Ext.drew [] wr)) (B2 (B9 (A6 (Bd (Aa (A5 (Ae U (A8 U U ?_)))))))))));refine Ac U (qA ?_);exact⟨(((x.it.page:Nat):Int),d+1),rfl,⟨rfl,rfl,trivial⟩,⟨hx0r.trans (Ext.drew [] wr),by dsimp only;omega,by dsimp only;omega,by dsimp only;rw[show 18 - (d+1)=17 - d by omega];exact hg⟩,by dsimp only;omega⟩
      .intro h5;subst h5;dsimp only at hg;have hx12:=H.ext;have Ir:=I.call hx12;obtain⟨ms,R,-,hl,hok⟩:=Ir.ex;have hml:ms.length=nn:=by rw[hnum,<-hl,qan]
       refine Ap (Aa (Ad (Af B0 U (AG BV U H at0 U (Aj U (Ah qB (OO Ir ka kc _ key (Rk.ext0 (hxw.trans hx12)) U) U ?_))))));rintro v w5 ⟨rfl,hx55⟩;replace H:=H.call hx55;refine AL U (Ag U U (Ag U U (Ac U (Am U (qA (Aq (Ad (A4 U (Cc U ?_)))))))));refine qA (Ar _ U ?_ ?_)
       .intro h6;replace h6:=Cs h6;rw[if_neg (by simpa using h6)]at hg;refine Ad (Ai U (Am U (Ac U (qA (Aw (An (AK (An (An (AK (An (Ci (v1:=(.slice _ _ _)) (v2:=(.bool _)) (v3:=(.int _ _)) U U U U U ?_))))))))))));exact⟨none,0,[],by rw[<-hg];rfl,hxw.trans H.ext,Rdx.nil,qae _,by rw[<-hg];rfl⟩
       .intro h6;replace h6:=Cu h6;have h6':Ee l key=true:=by simpa using h6
        rw[if_pos h6']at hg;obtain⟨y,hy,-⟩:=Kz h6';have hpl:=(qar.1 hy).1;obtain⟨x,hx1⟩:=AY (l:=ms) (i:=Cd l key);have hxL:=Im.at hl hx1;rw[hxL]at hg;simp only[qbd,qda]at hg;have hxo:=(hok x (qaf hx1)).call hx55;refine Ap (Aa (Ad (Af B0 U (AG BV U H at0 U (Ae U (Bo R Bu Bn U U ?_))))));refine Af Ji U (Bq BF U ((R.ext0 hx55).fld hx1 U (j:=1) U) ?_);refine Ai U (Am U (Ac U (qA (Aw (AK (An (An (AK (An (Ci (v1:=(.slice _ _ _)) (v2:=(.bool _)) (v3:=(.int _ _)) U U U U U ?_))))))))));refine⟨x.va,x.vc,x.it.val,by rw[<-hg];rfl,hxw.trans H.ext,hxo.v.weak (Old.mono hx),hxo.vc,by rw[<-hg];rfl⟩
    .intro h3;replace h3:=Bi h3;have h3':page = -1:=by simpa using h3
     rw[if_pos h3']at hg;refine B9 (A6 (A6 (Bd (Aa (Ad (Ai U (Am U (Ac U (qA (Aw (Ci (v1:=(.slice _ _ _)) (v2:=(.bool _)) (v3:=(.int _ _)) U U U U U ?_)))))))))));exact⟨none,0,[],by rw[<-hg];rfl,hx,Rdx.nil,qae _,by rw[<-hg];rfl⟩
end
def IA(inner:Bool)(half:Nat):List It->Nat->Nat
 | [],_=>0
 |x::l,sum=>if sum<half then IA inner half l (sum+Cn inner x)+1 else 0
def ED(inner:Bool)(L:List It):Nat:=IA inner (AQ inner L / 2) L 0
def CQ(inner:Bool)(L:List It):List (List It):=if AQ inner L<=503 then[L]else[L.take (ED inner L),L.drop (ED inner L)]
abbrev SN:=Option Addr × List It × Nat
def Yn(inner:Bool)(x:SN):List Value:=[.bool inner,.slice x.1 x.2.1.length x.2.2]
structure Nds(w:World)(M:Mut)(inner:Bool)(a:Option Addr)(n c:Nat)(Ls:List (List It)):Prop where
 ex:∃ms:List SN,Rd w a 2 (Yn inner) ms/\(ms=[]\/¬M (adr a).block)/\ms.map (fun x=>x.2.1)=Ls/\∀m∈ms,Its w M m.1 m.2.1.length m.2.2 m.2.1
 num:n=Ls.length
theorem Nds.turn{w w':World}{M M':Mut}{inner:Bool}{a:Option Addr}{n c:Nat}{Ls:List (List It)}(h:Nds w M inner a n c Ls)(t:Grown M M' w w'):Nds w' M' inner a n c Ls:=by
 obtain⟨ms,R,hs,hl,hm⟩:=h.ex;refine⟨⟨ms,?_,?_,hl,fun m hx=>(hm m hx).turn t⟩,h.num⟩
 .rcases hs with rfl|hs
  .exact Rd.nil
  .obtain⟨⟨S,hS,hx⟩,_⟩:=t;exact R.ext hx fun h=>hs (hS _ h)
 .rcases hs with rfl|hs
  .exact .inl U
  .rcases Si R (fun x _=>rfl)with h0|h0
   .exact .inl h0
   .exact .inr fun h5=>(t.2 _ h5).elim hs fun h6=>by omega
theorem Kl(inner:Bool)(L:List It)(k:Nat):AQ inner (L.take k)<=AQ inner L:=by
 have h:=Bs inner (L.take k) (L.drop k);rw[qbp]at h;omega
theorem Yo{w:World}{M:Mut}(hM:∀x,M x->x<w.heap.size)(inner:Bool){a:Option Addr}{n c:Nat}{L:List It}(I:Its w M a n c L)(hsz:∀x∈L,x.key.length<=65535/\x.val.length<=65535)(hm:n<=1000000:=by omega):
  Ret prog 210 #[.agg #[.bool inner,.slice a n c]] w fun v w'=>∃a' n' c',v=.slice a' n' c'/\Nds w' M inner a' n' c' (CQ inner L)/\Ext [] w w':=by
 obtain⟨w0,rfl,H⟩:=qE w;obtain⟨ms,R,-,hl,hok⟩:=I.ex;have hnum:=I.num;have hcap:=I.le;have hml:ms.length=n:=by rw[hnum,<-hl,qan]
 have htl:=LD (inner:=inner) hsz;refine Ax (fn:=f210) func210 U [.agg #[.bool inner,.slice a n c]] U (Ad (BN [.bool inner,.slice a n c] (.agg _) U U H ?_));rintro b1 w - H;refine Ai U (qA (Aq (Ad (BH BJ Bm U H at0 U (Ah qB (TV inner (I.call H.ext) hm hsz) U ?_)))));rintro v w ⟨rfl,hx7⟩;replace H:=H.call hx7;refine Rh U U U (qA (Ar _ U ?_ ?_))
 .intro h1;replace h1:=AV h1;have hh:CQ inner L=[L]:=by rw[CQ,if_pos (by omega)]
  have hxb:=H.ext;refine Ad (BH BJ Bm U H at0 U (C3 _ (.agg _) RL Bm CJ U U U U H ?_));rintro b10 w - H;refine Ai U (qA (Aw (An (AE (v:=(.slice _ _ _)) U U U ?_))));refine⟨some ⟨b10,0,none⟩,1,1,rfl,⟨⟨[(a,L,c)],Rd.of_bl (r:=[]) (H.get at0) ?_ (fun _ _=>rfl),.inr fun hq=>?_,by rw[hh];rfl,fun m hm=>?_⟩,by rw[hh];rfl⟩,H.ext⟩
  .rw[qdm,qa2,Yn,<-hnum]
  .have:=hM _ hq;have h5:=(H.own _ (qad ..)).elim (fun h=>by cases h) id;dsimp only[adr]at this h5;omega
  .rw[qab.1 hm];have:=I.call H.ext;rw[hnum]at this;exact this
 .intro h1;replace h1:=AW h1;have hh:CQ inner L=[L.take (ED inner L),L.drop (ED inner L)]:=by rw[CQ,if_neg (by omega)]
  refine Ap (Aa (Ad (BH BJ Bm U H at0 U (Ah qB (TV inner (I.call H.ext) hm hsz) U ?_))));rintro v w ⟨rfl,hx12⟩;replace H:=H.call hx12;refine NI U U U (show _<=(9223372036854775807:Int)by omega) ?_;rw[show(AQ inner L:Int) / 2=((AQ inner L / 2:Nat):Int)by omega];refine Ac U (Ac U (Ac U (qA (Aq (AB ?_)))));obtain⟨wb,rfl⟩:=qD w;have hb1:=H.get at0;have hxb:=H.ext;have hnode:∀{z:World},Ext [] wb z->z.heap[b1]?=some (Bl 183 [.bool inner,.slice a n c]):=fun{z} h=>by rw[h.block b1 (Al hb1) (by simp)];exact hb1
  have hRR:∀{z:World},Ext [] wb z->Rd z a 3 Im.enc ms:=fun{z} h=>R.ext0 (hxb.trans h);refine BE 268419120 (α:=Nat) (fun k=>[(4,.int .i64 (AQ inner (L.take k):Int)),(5,.int .i64 (k:Int))]) (fun k w'=>k<=n/\Ext [] wb w'/\IA inner (AQ inner L / 2) (L.drop k) (AQ inner (L.take k))+k=ED inner L) (fun k=>n - k) 0 U ?_ ?_ ?_
  .exact⟨rfl,rfl,trivial⟩
  .exact⟨qal _,.refl _ _,rfl⟩
  .rintro k j w ⟨hk,hxl,hg⟩;have htk:=Kl inner L k;refine Aq (Ad (Ae U (Ae U (Bp U U (qA (Ar _ U ?_ ?_))))))
   .intro h2;replace h2:=AV h2
    have hkn:k<n:=by
     rcases qbl k n with h3|h3
     .exact h3
     .rw[qa3 (by omega)]at h2;omega
    obtain⟨x,hx1⟩:=AY (l:=ms) (i:=k);have hxL:=Im.at hl hx1;have hxo:=hok x (qaf hx1);have hxs:=hsz x.it (qaf hxL);have hts:=OP (inner:=inner) hxL;have htk2:=Kl inner L (k+1);rw[JS hxL,IA,if_pos (by omega),<-hts]at hg;have hD:=Ext.drew [] w;have hoD:=hxo.call ((hxb.trans hxl).trans hD);refine Ap (Aa (AB (BQ [([0,1,2,3,4,5,6],7),([8],9)] (fun z=>Ext [] w z) [] mixed (hD) ?_)));refine A7 U U ?_;refine BI U (Wn _ U BJ Bm U U (fun _ hx=>(fun j v hv=>by rw[Au (hnode (hxl.trans hx)),qa4];exact hv)) ?_);refine AF B0 U (BO BV U (fun _ hx=>Au (hnode (hxl.trans hx)) (0+1)) ?_);refine BI U (DH R Bu Bn U U ?_);refine Wn _ U Dg Bn U U (fun _ hx=>(hRR (hxl.trans hx)).row hx1 rfl) (Bj ?_)
    skip
    refine Ah qB (TU inner a n c hoD) U ?_;rintro v w5 ⟨rfl,hx24⟩;have hx5:=hD.trans hx24;refine Ab (Be (hx5) (A7 U U ?_));refine Ew U U (Bj (Ac U (Ab (Be (hx5) (B2 (A5 (Ae U (A8 U U ?_))))))));refine Ac U (Ab (AH (Aa ?_)));exact⟨k+1,rfl,⟨by show Value.int .i64 _=Value.int .i64 _;congr 1;rw[hts];omega,rfl,trivial⟩,⟨by omega,hxl.trans hx5,by rw[<-hg];omega⟩,by omega⟩
   .intro h2;replace h2:=AW h2
    have hK:ED inner L=k:=by
     have h0:IA inner (AQ inner L / 2) (L.drop k) (AQ inner (L.take k))=0:=by
      cases hd:L.drop k with
      |nil=>rfl
      |cons x l=>rw[IA,if_neg (by omega)]
     omega
    have hD:=Ext.drew [] w;have H:=(Ctx.start w []).drew;refine B9 (A6 (A6 (Bd (Aa (BQ [([0,1,2,3,4,5,6,7,8,9,10,11,12,13],14),([],15)] (fun z=>Ext [] w z) [] mixed (hD) ?_)))));refine A7 U U ?_;refine AF Dh U (BO Gp U (fun _ hx=>Au (hnode (hxl.trans hx)) (0+0)) ?_);refine AF B0 U (BO BV U (fun _ hx=>Au (hnode (hxl.trans hx)) (0+1)) ?_);refine BI U (FC U Bu Bn U U ?_);refine Je [.bool inner,.slice a k c] U Hy CJ ?_;refine AF Dh U (BO Gp U (fun _ hx=>Au (hnode (hxl.trans hx)) (0+0)) ?_);refine AF B0 U (BO BV U (fun _ hx=>Au (hnode (hxl.trans hx)) (0+1)) ?_);refine BI U (FB U Bu Bn U U ?_);refine Je [.bool inner,.slice (DV a c k 3) (n - k) (c - k)] U Hy CJ (Bj ?_)
    skip
    refine BM [.bool inner,.slice a k c,.bool inner,.slice (DV a c k 3) (n - k) (c - k)] RL Bm CJ H ?_;rintro b42 w5 - H;refine Ab (Be (H.ext) (A7 U U ?_));refine Bj (Ai U (Ab (Be (H.ext) (B2 (Aw (AE (v:=(.slice _ _ _)) U U U ?_))))));have hx5:=(hxb.trans hxl).trans H.ext;have I5:=I.call hx5;have hlt:(L.take k).length=k:=by rw[qay];omega
    have hld:(L.drop k).length=n - k:=by rw[qbe];omega
    refine⟨some ⟨b42,0,none⟩,2,2,rfl,⟨⟨[(a,L.take k,c),(DV a c k 3,L.drop k,c - k)],Rd.of_bl (r:=[]) (H.get at0) ?_ (fun _ _=>rfl),.inr fun hq=>?_,by rw[hh,hK];rfl,fun m hm=>?_⟩,by rw[hh];rfl⟩,hx5⟩
    .simp[Yn,hlt,hld]
    .have:=hM _ hq;have h5:=(H.own _ (qad ..)).elim (fun h=>by cases h) id;have h6:=(hxb.trans hxl).size;dsimp only[adr]at this h5;omega
    .rcases qaa.1 hm with rfl|hm
     .have:=I5.take (k:=k) hk;rw[<-hlt]at this
      simpa[hlt]using this
     .rw[qab.1 hm];have:=I5.drop (k:=k) hk;rw[<-hld]at this
      simpa[hld]using this
theorem Grown.trans{F F' F'':Mut}{w w' w'':World}(h1:Grown F F' w w')(h2:Grown F' F'' w' w''):Grown F F'' w w'':=by
 obtain⟨⟨S1,hS1,hx1⟩,g1⟩:=h1;obtain⟨⟨S2,hS2,hx2⟩,g2⟩:=h2;have hs:=hx1.size;refine⟨⟨S1++S2.filter (fun x=>decide (x<w.heap.size)),fun x hx=>?_,(hx1.mono fun x h=>qbb _ h).then hx2 fun x h=>?_⟩,fun x h=>?_⟩
 .rcases qat.1 hx with h|h
  .exact hS1 x h
  .have h5:=qbg.1 h;have h6:x<w.heap.size:=by simpa using h5.2
   exact(g1 x (hS2 x h5.1)).elim id fun h7=>by omega
 .by_cases h6:x<w.heap.size
  .exact .inl (qaz _ (qbg.2 ⟨h,qai h6⟩))
  .exact .inr (by omega)
 .rcases g2 x h with h|h
  .exact g1 x h
  .exact .inr (by omega)
structure Fo(w:World)(M:Mut)(Y:List (Nat × Obj)):Prop where
 blk:∀y∈Y,w.heap[y.1]?=some y.2
 nd:Y.Pairwise fun x y=>x.1≠y.1
 off:∀y∈Y,¬M y.1
def MY(M:Mut)(Y:List (Nat × Obj)):Mut:=fun x=>M x\/x∈Y.map (·.1)
section
variable {w w':World}{M M':Mut}{Y Y':List (Nat × Obj)}
theorem Fo.nil:Fo w M []:=⟨(fun y h=>by cases h),List.Pairwise.nil,(fun y h=>by cases h)⟩
theorem Fo.call(h:Fo w M Y)(t:Grown M M' w w'):Fo w' M' Y/\Grown (MY M Y) (MY M' Y) w w':=by
 obtain⟨⟨S,hS,hx⟩,g⟩:=t;refine⟨⟨fun y hy=>?_,h.nd,fun y hy h5=>?_⟩,⟨⟨S,fun x hx => .inl (hS x hx),hx⟩,fun x h5=>?_⟩⟩
 .rw[hx.block y.1 (Al (h.blk y hy)) fun h5=>h.off y hy (hS _ h5)];exact h.blk y hy
 .rcases g _ h5 with h6|h6
  .exact h.off y hy h6
  .have:=Al (h.blk y hy);omega
 .rcases h5 with h5|h5
  .exact(g x h5).imp .inl id
  .exact .inl (.inr h5)
theorem Fo.ctx(h:Fo w M Y):Ctx w (Y.map (·.1)) w Y:=Ctx.startL h.blk h.nd
theorem Fo.own(h:Fo w M Y)(hlt:∀x,M x->x<w.heap.size)(H:Ctx w (Y.map (·.1)) w' Y'):Fo w' M Y'/\Grown (MY M Y) (MY M Y') w w':=by
 refine⟨⟨H.blk,H.nd,fun y hy h5=>?_⟩,⟨⟨Y.map (·.1),fun x hx => .inr hx,H.ext⟩,fun x h5=>?_⟩⟩
 .rcases H.own y hy with h6|h6
  .obtain⟨z,hz,he⟩:=qak.1 h6;exact h.off z hz (by rw[he];exact h5)
  .have:=hlt _ h5;omega
 .rcases h5 with h5|h5
  .exact .inl (.inl h5)
  .obtain⟨y,hy,rfl⟩:=qak.1 h5;exact(H.own y hy).imp .inr id
theorem Fo.weak(h:Fo w M Y)(hM:∀x,M' x->M x):Fo w M' Y:=⟨h.blk,h.nd,fun y hy h5=>h.off y hy (hM _ h5)⟩
def MZ(M Z:Mut):Mut:=fun x=>M x\/Z x
theorem Grown.or(t:Grown M M' w w')(Z:Mut):Grown (MZ M Z) (MZ M' Z) w w':=by
 obtain⟨⟨S,hS,hx⟩,g⟩:=t;exact⟨⟨S,fun x h => .inl (hS x h),hx⟩,fun x h=>h.elim (fun h=>(g x h).imp .inl id) fun h => .inl (.inr h)⟩
end
def pv(k:Nat):Value := .int .i64 (k:Int)
def TC:Nat:=188
structure Ch where
 A:Dev
 P:List Nat
 tk:List Nat
 gn:List Nat
abbrev CL(bt bc:Nat)(ta:Option Addr)(tn tc:Nat)(tf:List Value)(ga:Option Addr)(gn gc:Nat)(gf:List Value):List (Nat × Obj) :=
 (bc,Bl TC [ptr bt,.slice ta tn tc,.slice ga gn gc])::(ent ta 3 tf++ent ga 3 gf)
structure Cx(w:World)(bt bd bp ba fr bc:Nat)(c:Ch)(F:Mut)(L:List (Nat × Obj)):Prop where
 T:Tx w bt bd bp ba fr c.A c.P F L
 ex:∃ta tc tf ga gc gf,L=CL bt bc ta c.tk.length tc tf ga c.gn.length gc gf/\OS ta c.tk.length tc 1 tf (c.tk.map pv)/\OS ga c.gn.length gc 1 gf (c.gn.map pv)
def HA(P:List Nat):Int:=if Co P=P.length then 7 else 0
def BZ(P:List Nat):Nat:=if Co P=P.length then 0 else Co P
def GZ(P:List Nat):List Nat:=if Co P=P.length then P else P.set (Co P) 2
theorem Uf(P:List Nat):BZ P<=P.length:=by
 have:=(qe1 (l:=P) (fun s=>decide (s≠0))).length_le;unfold BZ Co;split <;> omega
theorem Yp{w:World}{bp ba:Nat}{P:List Nat}(h:PgAt w bp ba P):Ret prog 157 #[ptr bp] w fun v w'=>v=.tuple #[.int .i64 (BZ P:Int),.int .i64 (HA P)]/\PgAt w' bp ba (GZ P)/\Ext [ba] w w' :=
 (Abv h).mono fun v w' hh=>by
  rcases hh with⟨h1,hv,hp,hx⟩|⟨h1,hv,rfl⟩
  .have hn:¬Co P=P.length:=by omega
   rw[BZ,HA,GZ,if_neg hn,if_neg hn,if_neg hn];exact⟨hv,hp,hx⟩
  .rw[BZ,HA,GZ,if_pos h1,if_pos h1,if_pos h1];exact⟨hv,h,.refl _ _⟩
theorem Yq{k:UInt8}{l:Byt}{w w':World}{v:Value}(h:Jl k l w v w'):∃a m c,v=.tuple #[.slice a (List.length m) c,.int .i64 (F4 k l)]/\Ext [] w w'/\Rdx w' (Old w) a m/\m.length<=c/\(F4 k l=0->m=CY k l):=by
 rcases h with⟨h0,rfl,hx⟩|⟨h0,s,rfl,B⟩
 .exact⟨none,[],0,rfl,hx,Rdx.nil,qae _,fun h=>absurd h h0⟩
 .obtain⟨a,c,rfl,R,hc,hn⟩:=B.ex;exact⟨a,_,c,by rw[h0],B.ext,Rdx.fresh R (.inr hn),hc,fun _=>rfl⟩
theorem Rd.turnM{w w':World}{M M':Mut}{α:Type}{a:Option Addr}{s:Nat}{enc:α->List Value}{l:List α}(R:Rd w a s enc l)(hs:l=[]\/¬M (adr a).block)(h0:0<s)(he:∀x∈l,(enc x).length=s)(t:Grown M M' w w'):Rd w' a s enc l/\(l=[]\/¬M' (adr a).block):=by
 rcases hs with rfl|hs
 .exact⟨Rd.nil,.inl rfl⟩
 .obtain⟨⟨S,hS,hx⟩,g⟩:=t;refine⟨R.ext hx fun h=>hs (hS _ h),?_⟩
  rcases Si R (hs:=h0) he with h|h
  .exact .inl h
  .exact .inr fun h5=>(g _ h5).elim hs fun h6=>by omega
def Ho(inner:Bool)(L:List It):Byt:=CY (Gh inner L) (Gg inner L)
def OW(inner:Bool)(L:List It):Int:=F4 (Gh inner L) (Gg inner L)
def Gt(L:List It):Byt:=(L[0]?.map (·.key)).getD []
def wrC(fr:Nat)(c:Ch)(inner:Bool)(L:List It):Int × Ch :=
 if HA c.P≠0 then(HA c.P,c)
 else if OW inner L≠0 then(OW inner L,{ c with P:=GZ c.P,tk:=c.tk++[BZ c.P] })
 else(CS c.A (((fr+BZ c.P:Nat)):Int) (Ho inner L),⟨Cf c.A (((fr+BZ c.P:Nat)):Int) (Ho inner L),GZ c.P,c.tk++[BZ c.P],c.gn⟩)
theorem Q6{w:World}{bt bd bp ba fr bc:Nat}{c:Ch}{F:Mut}{L:List (Nat × Obj)}(X:Cx w bt bd bp ba fr bc c F L)(hfr:fr<=5000)(inner:Bool){a:Option Addr}{n cc:Nat}{M:List It}(Z:Mut)(I:Its w (MZ (TM F ba bt bp L) Z) a n cc M)(hne:M≠[])(hsz:∀x∈M,x.key.length<=65535/\x.val.length<=65535)(hpg:∀x∈M,x.page<9223372036854775808){mx:Nat}(hfew:Few c.A mx)(htk:c.tk.length<=100000:=by omega)(hm:n<=1000:=by omega)(hmx:mx<=1000000000:=by omega):
  Ret prog 131 #[ptr bc,.agg #[.bool inner,.slice a n cc]] w fun v w'=>∃(m:Im) (F':Mut) (L':List (Nat × Obj)),v=.tuple #[.agg m.enc.toArray,.int .i64 (wrC fr c inner M).1]/\Cx w' bt bd bp ba fr bc (wrC fr c inner M).2 F' L'/\Grown (TM F ba bt bp L) (TM F' ba bt bp L') w w'/\m.Ok w' (MZ (TM F' ba bt bp L') Z)/\m.it.page<=4096/\((wrC fr c inner M).1=0->m.it=⟨Gt M,[],BZ c.P⟩):=by
 obtain⟨w0,rfl⟩:=qD w;obtain⟨T,ta,tc,tf,ga,gc,gf,rfl,Ot,Og⟩:=X;obtain⟨wr,hwr⟩:=qD (wrC fr c inner M);rw[<-hwr];unfold wrC at hwr;have hkl:=Uf c.P;have hpl:=T.pg.len;have H:=T.ctx;refine Ax (fn:=f131) func131 U [.pointer (some ⟨bc,0,none⟩),.agg #[.bool inner,.slice a n cc]] U ?_;refine Ad (BN [.bool inner,.slice a n cc] (.agg _) U U H ?_);rintro b3 w - H;refine Bf Dn H ?_;rintro b4 w - H;refine Ac U (qA (Ad (Ao U (AD U (Af HL U (AG KW U H at2 U (AD U (Af Jh U (Bq Od U (Au (T.own H).1.tr (0+1)) ?_)))))))));obtain⟨T1,G1⟩:=T.own H;refine Ah qB (Yp T1.pg) U ?_;rintro v w2 ⟨rfl,hp2,hx2⟩;obtain⟨T2,G2⟩:=T1.page hp2 hx2;have G12:=G1.trans G2;replace H:=T2.ctx;refine AL U (Ag U U (Ag U U (Ac U (Ac U (qA (Aq (Ad (Ae U (AN U U ?_)))))))));refine qA (Ar _ U ?_ ?_)
 .intro h1;replace h1:=Bh h1;rw[if_pos h1]at hwr;have hPP:GZ c.P=c.P:=by unfold GZ HA at *;split <;> simp_all
  refine Ad (Bw [.slice none 0 0,.slice none 0 0,.int .i64 0] Ow Dn ?_);refine Ae U (Bc Bn U U U (by simp[AX]) H at0 U ?_);rintro w H;refine Ac U (qA (Aw (An (CE U U U Dg Bn H at0 U (show _=(.int _ _)from rfl) ?_))));obtain⟨T3,G3⟩:=T2.own H.tail.tail;rw[hPP]at T3;exact⟨⟨none,0,none,0,⟨[],[],0⟩⟩,F,_,by rw[hwr];rfl,by rw[hwr];exact⟨T3,ta,tc,tf,ga,gc,gf,rfl,Ot,Og⟩,G12.trans G3,⟨Rdx.nil,Rdx.nil,qae _,qae _⟩,qal _,fun h=>absurd (by rw[hwr]at h;exact h) h1⟩
 .intro h1;replace h1:=Bi h1;rw[if_neg (by simpa using h1)]at hwr;have hl1:(c.tk++[BZ c.P]).length=c.tk.length+1:=by simp
  refine Ap (Aa (Ad (Ao U (Ao U (AD U (Af Oo U (AG HK U H at2 U (Ae U (C3 _ (.int _ _) EZ H1 XL U U U U H ?_)))))))));rintro b30 w - H;replace H:=H.perm ((((List.perm_append_comm.cons _).cons _).cons _).cons _);refine Df (L:=_::_::_::ent ga 3 gf) EZ EZ H1 by_3 XL U U U H Ot U (by simp[AX]) ?_;rintro a31 c31 f31 w H O31;refine AD U (Af Oo U (Bk (.slice _ _ _) Ox U U U H at2 (by(simp;done)) ?_));rintro w H;refine qA (Ad (BH BJ Bm U H at1 U ?_));obtain⟨T3,G3⟩:=T2.own H;have G13:=G12.trans G3;have hFlt:=T3.lt;have I3:=(I.weak fun _ h=>Or.inl h).turn G13;refine Ah qB (Abp inner I3 hm hsz hpg) U ?_;rintro v w4 SP;obtain⟨sa,sm,sc,rfl,hx36,Xm,hmc,hmm⟩:=Yq SP;have T4:=T3.call hx36;have G14:=G13.trans (.call0 hx36);replace H:=T4.ctx
  refine AL U (Ag U U (Ag U U (Ai U (Ac U (qA (Aq (Ad (Ae U (AN U U ?_)))))))));refine qA (Ar _ U ?_ ?_)
  .intro h2;replace h2:=Bh h2;have h2':OW inner M≠0:=h2;rw[if_pos h2']at hwr
   have hO:OS a31 (c.tk++[BZ c.P]).length c31 1 f31 ((c.tk++[BZ c.P]).map pv):=by
    rw[hl1,qa0];exact O31
   refine Ad (Bw [.slice none 0 0,.slice none 0 0,.int .i64 0] Ow Dn ?_);refine Ae U (Bc Bn U U U (by simp[AX]) H at0 U ?_);rintro w H;refine Ac U (qA (Aw (An (CE U U U Dg Bn H at0 U (show _=(.int _ _)from rfl) ?_))));obtain⟨T5,G5⟩:=T4.own (H.tail.tail.perm (List.perm_append_comm.cons _));refine⟨⟨none,0,none,0,⟨[],[],0⟩⟩,F,_,by rw[hwr];rfl,?_,G14.trans G5,⟨Rdx.nil,Rdx.nil,qae _,qae _⟩,qal _,fun h=>absurd (by rw[hwr]at h;exact h) h2'⟩;rw[hwr];exact⟨T5,a31,c31,f31,ga,gc,gf,by rw[hl1];rfl,hO,Og⟩
  .intro h2;replace h2:=Bi h2;have h2':¬OW inner M≠0:=fun h=>h h2;rw[if_neg h2']at hwr;have hmm':sm=Ho inner M:=hmm h2
   have hO:OS a31 (c.tk++[BZ c.P]).length c31 1 f31 ((c.tk++[BZ c.P]).map pv):=by
    rw[hl1,qa0];exact O31
   obtain⟨ms,R,hs,hl,hok⟩:=I.ex;have hs:ms=[]\/¬TM F ba bt bp _ (adr a).block:=hs.imp id fun h h5=>h (Or.inl h5);have hml:ms.length=n:=by rw[I.num,<-hl,qan]
   have hMp:0<M.length:=qbs.2 hne;have hnum:=I.num;obtain⟨x,hx0⟩:=AY (l:=ms) (i:=0);have hxL:=Im.at hl hx0;have hk0:Gt M=x.it.key:=by unfold Gt;rw[hxL];rfl
   obtain⟨R4,hs4⟩:=Rd.turnM R hs (by decide) (fun _ _=>rfl) G14;have R4d:=R4.ext0 (Ext.drew [] w4);have G1d:=G14.trans (.call0 (Ext.drew [] w4));have T4d:=T4.call (Ext.drew [] w4);have hbc:w4.heap[bc]?=some (Bl TC [ptr bt,.slice a31 (c.tk.length+1) c31,.slice ga c.gn.length gc]):=H.get at2;have hb3:w4.heap[b3]?=some (Bl 183 [.bool inner,.slice a n cc]):=H.get at1;have hbt:=T4.tr;have hcell:=R4.fld hx0 rfl (j:=0) rfl
   have hbl:(Gg inner M).length<=505:=by
    unfold OW F4 at h2'
    by_cases h5:505<(Gg inner M).length
    .rw[qai h5]at h2';exact absurd (by cases decide ((Gh inner M).toNat=0) <;> simp) h2'
    .omega
   have hsl:sm.length=512:=by rw[hmm'];exact En hbl
   refine Ap (Aa (BQ [([0,1,2,3,4,5,6,7,8,9,10,11,12,13,14,15,16,17,18,19,20,21,22,23],24),([],25),([],26)] (fun z=>z.heap[bc]?=some (Bl TC [ptr bt,.slice a31 (c.tk.length+1) c31,.slice ga c.gn.length gc])/\z.heap[b3]?=some (Bl 183 [.bool inner,.slice a n cc])/\z.heap[bt]?=some (Bl TT (Q1 bd bp fr))/\z.cell? ⟨(adr a).block,(adr a).off+0*3+0,none⟩=some (.slice x.ka x.it.key.length x.kc)) [] mixed (⟨hbc,hb3,hbt,hcell⟩) ?_));refine A7 U U (AF B0 U (BO BV U (fun _ hx=>Au hx.2.1 (0+1)) ?_));refine DH R4 Bu Bn U U (AF El U (BO BF U (fun _ hx=>hx.2.2.2) ?_));refine BI U (Je [.slice x.ka x.it.key.length x.kc,.slice none 0 0,.int .i64 (BZ c.P:Int)] U Ow Dn ?_);refine CP U (Bg U (AF HL U (BO KW U (fun _ hx=>Au hx.1 (0+0)) ?_)))
   refine Bg U (AF Tq U (BO Cy U (fun _ hx=>Au hx.2.2.1 (0+0)) ?_));refine CP U (Bg U (AF HL U (BO KW U (fun _ hx=>Au hx.1 (0+0)) ?_)));refine Bg U (AF Ts U (BO DE U (fun _ hx=>Au hx.2.2.1 (0+2)) ?_));refine BI U (Ew U U ?_);rw[show(fr:Int)+(BZ c.P:Int)=((fr+BZ c.P:Nat):Int)by omega];refine Ca U (Bj ?_)
   skip
   refine Ah qB (Mr ((fr+BZ c.P:Nat):Int) sa sc _ sm (Xm.1.ext0 (Ext.drew [] w4)) U (hm:=by omega) (Xm.2.imp id fun h hf=>h (hFlt _ hf)) hfew T4d.dev) U ?_;rintro v w5 ⟨rfl,hd5,ht5⟩;obtain⟨T5,G5⟩:=T4d.devs hd5 ht5 (fun x hx=>hx);obtain⟨R5,hs5⟩:=Rd.turnM R4d hs4 (by decide) (fun _ _=>rfl) G5;replace H:=T5.ctx;have G15:=G1d.trans G5;refine Ab (Be (⟨T5.ctx.get at2,T5.ctx.get at1,T5.tr,R5.fld hx0 U (j:=0) rfl⟩) (A7 U U ?_));refine Bj (Bc Bn U U U (by simp[AX]) H at0 U ?_);rintro w H;refine Ab (Be (⟨H.get at2,H.get at1,(T5.own H).1.tr,(Rd.turnM R5 hs5 (by decide) (fun _ _=>rfl) (T5.own H).2).1.fld hx0 U (j:=0) rfl⟩) ?_);refine A7 U U (Bj (Ac U (Ab (Be (⟨H.get at2,H.get at1,(T5.own H).1.tr,(Rd.turnM R5 hs5 (by decide) (fun _ _=>rfl) (T5.own H).2).1.fld hx0 U (j:=0) rfl⟩) ?_))));refine B2 (Aw (CE U U U Dg Bn H at0 U (show _=(.int _ _)from rfl) ?_))
   obtain⟨T6,G6⟩:=T5.own (H.tail.tail.perm (List.perm_append_comm.cons _));have G16:=G15.trans G6;have hxo:=(hok x (qaf hx0)).turn (G16.or Z);refine⟨⟨x.ka,x.kc,none,0,⟨x.it.key,[],BZ c.P⟩⟩,_,_,by rw[hwr,hmm'];rfl,?_,G16,⟨hxo.k,Rdx.nil,hxo.kc,qae _⟩,by dsimp only;omega,fun _=>by rw[hk0]⟩;rw[hwr];rw[hmm']at T6;exact⟨T6,a31,c31,f31,ga,gc,gf,by rw[hl1];rfl,hO,Og⟩
def rdC(fr:Nat)(c:Ch)(page depth:Nat):Ch:=if(CM c.A fr c.P.length (page:Int) (depth:Int)).1=0 then{ c with gn:=c.gn++[page] }else c
theorem Ug{w:World}{bt bd bp ba fr bc:Nat}{c:Ch}{F:Mut}{L:List (Nat × Obj)}(X:Cx w bt bd bp ba fr bc c F L)(hfr:fr<=5000)(page depth:Nat){mx:Nat}(hfew:Few c.A mx)(hgn:c.gn.length<=100000:=by omega)(hp:page<=9223372036854775807:=by omega)(hmx:mx<=1000000000:=by omega):
  Ret prog 201 #[ptr bc,.int .i64 (page:Int),.int .i64 (depth:Int)] w fun v w'=>∃(inner:Bool) (a:Option Addr) (n cc:Nat) (L':List (Nat × Obj)),v=.tuple #[.agg #[.bool inner,.slice a n cc],.int .i64 (CM c.A fr c.P.length (page:Int) (depth:Int)).1]/\Cx w' bt bd bp ba fr bc (rdC fr c page depth) F L'/\Grown (TM F ba bt bp L) (TM F ba bt bp L') w w' /\
   ∀i M,(CM c.A fr c.P.length (page:Int) (depth:Int)).2=some (i,M)->inner=i/\Its w' (MZ (TM F ba bt bp L') (Old w)) a n cc M/\∀x∈M,x.key.length<=505/\x.val.length<=505/\x.page<4294967296:=by
 obtain⟨w0,rfl⟩:=qD w;obtain⟨T,ta,tc,tf,ga,gc,gf,rfl,Ot,Og⟩:=X;have H:=T.ctx;obtain⟨rt,hrt⟩:=qD (CM c.A fr c.P.length (page:Int) (depth:Int));have hc2:rdC fr c page depth=if rt.1=0 then{ c with gn:=c.gn++[page] }else c:=by rw[hrt];rfl
 refine Ax (fn:=f201) func201 U [.pointer (some ⟨bc,0,none⟩),.int .i64 (page:Int),.int .i64 (depth:Int)] U ?_;refine Ad (Bf CJ H ?_);rintro b6 w - H;refine Ac U (qA (Ad (Ao U (AD U (Af HL U (AG KW U H at1 U (Ae U (Ae U ?_))))))));obtain⟨T1,G1⟩:=T.own H;have hml:=T1.mlt;have hsz:=H.ext.size;refine Ah qB (OR T1 hfr (page:Int) (depth:Int) (by omega) hfew hmx) U ?_;rintro v w2 ⟨inner,aa,nn,cc,rfl,hx17,hits⟩;have T2:=T1.call hx17;have G12:=G1.trans (.call0 hx17);rw[<-hrt]at hits;rw[<-hrt];replace H:=T2.ctx;refine AL U (Ag U U (Ag U U (Bf CJ H ?_)));rintro b8 w - H;refine Bc Bm U U U (by simp[AX]) H at0 U ?_;rintro w H;refine Ac U (qA (Aq (Ad (Ae U (B6 U U (qA (Ar _ U ?_ ?_)))))))
 .intro h1;replace h1:=AV h1;rw[if_pos h1]at hc2;have hl1:(c.gn++[page]).length=c.gn.length+1:=by simp
  refine A5 (Ao U (Ao U (AD U (Af Oq U (AG HK U H at2 U (Ae U (C3 _ (.int _ _) EZ H1 XL U U U U H ?_)))))));rintro b28 w - H;refine Df (L:=_::_::_::ent ta 3 tf) EZ EZ H1 by_3 XL U U U H Og U (by simp[AX]) ?_;rintro a29 c29 f29 w H O29;refine AD U (Af Oq U (Bk (.slice _ _ _) Ox U U U H at2 (by(simp;done)) ?_));rintro w H;refine qA (Ad (BH BJ Bm U H at0 U (Ae U (Bc Bm U U U (by simp[AX]) H at1 U ?_))));rintro w H;refine Ac U (qA (Aw (CE U U U BJ Bm H at1 U (show _=(.int _ _)from rfl) ?_)))
  have hO:OS a29 (c.gn++[page]).length c29 1 f29 ((c.gn++[page]).map pv):=by
   rw[hl1,qa0];exact O29
  obtain⟨T5,G5⟩:=T2.own H.tail.tail;have G15:=G12.trans G5;refine⟨inner,aa,nn,cc,_,rfl,?_,G15,fun i M h=>?_⟩
  .rw[hc2];exact⟨T5,ta,tc,tf,a29,c29,f29,by rw[hl1];rfl,Ot,hO⟩
  .obtain⟨h5,h6,h7⟩:=hits i M h;exact⟨h5,(h6.weak (M':=MZ _ (Old w0)) fun x h=>h.elim (hml x) fun h=>qas h hsz).turn (G5.or _),h7⟩
 .intro h1;replace h1:=AW h1;rw[if_neg h1]at hc2;refine Ap (Aa (Ad (BH BJ Bm U H at0 U (Ae U (Bc Bm U U U (by simp[AX]) H at1 U ?_)))));rintro w H;refine Ac U (qA (Aw (CE U U U BJ Bm H at1 U (show _=(.int _ _)from rfl) ?_)));obtain⟨T5,G5⟩:=T2.own H.tail.tail;have G15:=G12.trans G5;refine⟨inner,aa,nn,cc,_,rfl,?_,G15,fun i M h=>?_⟩
  .rw[hc2];exact⟨T5,ta,tc,tf,ga,gc,gf,rfl,Ot,Og⟩
  .obtain⟨h5,h6,h7⟩:=hits i M h;exact⟨h5,(h6.weak (M':=MZ _ (Old w0)) fun x h=>h.elim (hml x) fun h=>qas h hsz).turn (G5.or _),h7⟩
def De(fr:Nat)(inner:Bool):List (List It)->Ch->List It->Int × Ch × List It
 | [],c,acc=>(0,c,acc)
 |h::t,c,acc=>if(wrC fr c inner h).1=0 then De fr inner t (wrC fr c inner h).2 (acc++[⟨Gt h,[],BZ c.P⟩])else((wrC fr c inner h).1,(wrC fr c inner h).2,[])
def II(fr:Nat)(c:Ch)(inner:Bool)(L:List It):Int × Ch × List It:=if L=[]then(0,c,[])else De fr inner (CQ inner L) c []
theorem Nz{fr:Nat}{c:Ch}{inner:Bool}{M:List It}{m:Nat}(h:Few c.A m):Few (wrC fr c inner M).2.A (m+1):=by
 unfold wrC
 split
 .exact h.mono (by omega)
 .split
  .exact h.mono (by omega)
  .exact HP h _ _
theorem V8{fr:Nat}{c:Ch}{inner:Bool}{M:List It}:(wrC fr c inner M).2.tk.length<=c.tk.length+1:=by
 unfold wrC
 split
 .exact Nat.le_succ _
 .split
  .rw[qam];exact qae _
  .rw[qam];exact qae _
theorem Tx.side{w w':World}{bt bd bp ba fr:Nat}{A:Dev}{P:List Nat}{F:Mut}{L:List (Nat × Obj)}{S:List Nat}(T:Tx w bt bd bp ba fr A P F L)(hx:Ext S w w')(hS:∀x∈S,¬TM F ba bt bp L x):Tx w' bt bd bp ba fr A P F L:=by
 have hs:=hx.size;refine⟨?_,T.pg.keep hx (fun h=>hS _ h (.inr (.inr (.inr (.inl rfl))))) (fun h=>hS _ h (.inr (.inl rfl))),T.dev.keep hx fun x h hf=>hS x h (.inl hf),fun x hm=>?_,T.nd,T.off,T.nbt,T.nbp,T.nba,fun x h=>by have:=T.lt x h;omega⟩
 .rw[hx.block bt (Al T.tr) fun h=>hS _ h (.inr (.inr (.inl rfl)))];exact T.tr
 .rw[hx.block x.1 (Al (T.blk x hm)) fun h=>hS _ h (.inr (.inr (.inr (.inr (qak.2 ⟨x,hm,rfl⟩)))))];exact T.blk x hm
theorem Cx.side{w w':World}{bt bd bp ba fr bc:Nat}{c:Ch}{F:Mut}{L:List (Nat × Obj)}{Y:List (Nat × Obj)}(X:Cx w bt bd bp ba fr bc c F L)(O:Fo w (TM F ba bt bp L) Y)(hx:Ext (Y.map (·.1)) w w'):Cx w' bt bd bp ba fr bc c F L :=
 ⟨X.T.side hx fun x h=>by obtain⟨y,hy,rfl⟩:=qak.1 h;exact O.off y hy,X.ex⟩
theorem OX{inner:Bool}{L h:List It}(hh:h∈CQ inner L):h.length<=L.length/\∀x∈h,x∈L:=by
 unfold CQ at hh
 split at hh
 .rw[qab.1 hh];exact⟨qae _,fun _ h=>h⟩
 .simp only[qaa,qaj,or_false]at hh
  rcases hh with rfl|rfl
  .exact⟨by simp;omega,fun x h=>qbm h⟩
  .exact⟨by simp,fun x h=>qcr h⟩
theorem OY(inner:Bool)(L:List It):(CQ inner L).length<=2:=by
 unfold CQ
 split <;> simp
theorem MY.le{M:Mut}{Y:List (Nat × Obj)}:∀x,M x->MY M Y x:=fun _ h => .inl h
theorem Fo.lt{w:World}{M:Mut}{Y:List (Nat × Obj)}(O:Fo w M Y)(hlt:∀x,M x->x<w.heap.size):∀x,MY M Y x->x<w.heap.size:=fun x h=>by
 rcases h with h|h
 .exact hlt x h
 .obtain⟨y,hy,rfl⟩:=qak.1 h;exact Al (O.blk y hy)
end Go.Proofs.YtcpgbcabmcbclaaGreatDoor
