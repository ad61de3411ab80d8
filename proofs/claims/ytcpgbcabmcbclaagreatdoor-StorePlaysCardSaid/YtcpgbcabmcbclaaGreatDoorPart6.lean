/- Part 6 of the proof. -/
import Derived.Test.YtcpgbcabmcbclaaGreatDoorPart5
set_option maxRecDepth 20000
set_option maxHeartbeats 8000000
namespace Go.Proofs.YtcpgbcabmcbclaaGreatDoor
open Go.GV Go.Proofs.Tryz
attribute [local irreducible] AA W Wq Wt
def Aiv(w:World)(ids:List Nat):Mut:=fun x=>x<w.heap.size\/x∈ids
theorem Aiw{w0 w w':World}{L L':List (Nat × Obj)}(H:Ctx w (L.map (·.1)) w' L'):Grown (Aiv w0 (L.map (·.1))) (Aiv w0 (L'.map (·.1))) w w' :=
 ⟨⟨L.map (·.1),fun x h => .inr h,H.ext⟩,fun x h=>by
  rcases h with h|h
  .exact .inl (.inl h)
  .obtain⟨y,hy,rfl⟩:=qah.1 h
   rcases H.own y hy with h5|h5
   .exact .inl (.inr h5)
   .exact .inr h5⟩
theorem Aix(inner:Bool)(b:Byt)(at':Nat):Fv inner b 0 at'=some ([],at'):=rfl
theorem Qb{inner:Bool}{b:Byt}{n at':Nat}(h:Ni inner b at'=none):Fv inner b (n+1) at'=none:=by
 unfold Fv;rw[h]
theorem Qc{inner:Bool}{b:Byt}{n at' m:Nat}{x:It}(h:Ni inner b at'=some (x,m)):Fv inner b (n+1) at'=(Fv inner b n m).map fun r=>(x::r.1,r.2):=by
 rw[Fv];rw[h];simp only;cases Fv inner b n m <;> rfl
theorem Aiy{b:Byt}{w w':World}{v:Value}(h:NN b w v w'):∃a c,v=.tuple #[bv (Dt b),.slice a (BE b).length c,.int .i64 (Fe b)]/\Ext [] w w'/\Rdx w' (Old w) a (BE b)/\(BE b).length<=c:=by
 rcases h with⟨h,rfl,hx⟩|⟨h,s,rfl,F⟩
 .exact⟨none,0,by rw[Dt,BE,qag h];rfl,hx,by rw[BE,qag h];exact Rdx.nil,by rw[BE,qag h];exact qae _⟩
 .obtain⟨a,c,rfl,R,hc,hn⟩:=Fresh.newB F;exact⟨a,c,by rw[Dt,BE,h];rfl,F.ext,by rw[BE,h];exact Rdx.fresh R hn,by rw[BE,h];exact hc⟩
def OkL(b:Byt)(x:It):Prop:=x.key.length<=b.length/\x.val.length<=b.length/\x.page<4294967296
theorem Aiz(a:Option Addr)(c m:Nat)(b:Byt)(w:World)(R:Rd w a 1 B8 b)(hb:b.length=m)(hc:m<=c)(hm:m<=1000000:=by omega):
  Ret prog 203 #[.slice a m c] w fun v w'=>∃(inner:Bool) (a':Option Addr) (n' c':Nat),v=.tuple #[.agg #[.bool inner,.slice a' n' c'],.bool (Es b).isSome]/\Ext [] w w'/\∀i L,Es b=some (i,L)->inner=i/\Its w' (Old w) a' n' c' L/\∀x∈L,OkL (BE b) x:=by
 subst hb;obtain⟨w0,rfl,H⟩:=qE w;have hbl:=Pj b;obtain⟨g,nx,htv,hg,hnx,h0⟩:=UJ (BE b) 0;have hkt:=(Dt b).toNat_lt;obtain⟨ib,hib⟩:=qD (decide ((Dt b).toNat=3))
 have hP0:∀{x:Bool},(decide (Fe b=0) && (decide (Di (BE b) ((0:Nat):Int) 2=0) && (decide ((Dt b).toNat=2) || decide ((Dt b).toNat=3))))=x->Es b=if x=true then Xo ib (BE b) (Fv ib (BE b) (numN ((BE b).take 2)) 2)else none:=by
  intro x hx;rw[hib];unfold Es
  by_cases h1:Fe b=0
  .have e1:BE b=CS b:=by rw[BE,qal h1];rfl
   have e2:Dt b=GK b:=by rw[Dt,qal h1];rfl
   rw[e1,e2]at hx |-;subst hx
   by_cases h2:Di (CS b) 0 2=0/\((GK b).toNat=2\/(GK b).toNat=3)
   .rw[if_pos ⟨h1,h2⟩,if_pos (by simpa[h1]using h2)]
   .rw[if_neg (fun h=>h2 h.2),if_neg (fun h=>h2 (by simpa[h1]using h))]
  .rw[if_neg (fun h=>h1 h.1)];subst hx;rw[if_neg (by simp[h1])]
 refine A8 (fn:=f203) func203 U [.slice a b.length c] U (Ad (Bi Co H ?_));rintro b2 w - H;refine Am U (qA (Ad (Ah U (Aj qB (VR a c _ b _ (R.ext0 H.ext) U hc) U ?_))));have hb2:=H.lt (k:=0) rfl;rintro v w16 hop;obtain⟨a5,c5,rfl,hx16,X5,hc5⟩:=Aiy hop;have Hold:=H.call hx16;replace H:=Ctx.startL (fun x hx=>Hold.blk x hx) Hold.nd;have hge:=(Hold.own _ (qaf ..)).elim (fun h=>by cases h) id;have R5:∀{z:World},Ext [b2] w16 z->Rd z a5 1 B8 (BE b):=(fun{z} hz=>(X5.past hz (fun x hx=>by rw[qaa.1 hx];exact hb2)).1);refine AW U (Ai U U (Ai U U (Ai U U (Ac U (Ak U (Ac U (qA (Ad (Ae U ?_)))))))));refine BA U U ?_;rw[show decide (((Dt b).toNat:Int)=3)=ib by rw[hib];exact decide_eq_decide.2 (by omega)];refine B5 [.bool ib,.slice none 0 0] Hd Co (Bi Co H ?_)
 rintro b7 w - H;refine Bo Bg U U U (by simp[Bh]) H at0 U ?_;rintro w H;refine qA (Ad (Ah U (Aj qB (He a5 c5 _ (BE b) ((0:Nat):Int) 2 _ (R5 H.ext) U hc5) U ?_)));rintro v w ⟨rfl,hx25⟩;rw[htv];replace H:=H.call hx25;refine AW U (Ai U U (Ai U U (Ai U U (Ac U (Ac U (Ac U (qA (Ar (Ad (BG (α:=Unit) 17591649173504 (fun _=>[(43,.bool (!(decide (Fe b=0) && (decide (Di (BE b) ((0:Nat):Int) 2=0) && (decide ((Dt b).toNat=2) || decide ((Dt b).toNat=3))))))]) (fun _ w'=>Ctx w16 [b2] w' [(b7,Bl 183 [.bool ib,.slice none 0 0]),(b2,Bl 183 [.bool false,.slice none 0 0])]) U ?_ ?_))))))))))
 .refine Ae U (Be U U (AF U (AQ 31 U ?_ ?_)))
  .intro h1;replace h1:=Bv h1;refine Ag U (Ag U (AN U (.bool _) U (AF U (Ag U (Ag U (Ag U (Ag U (Ag U (Ag U ?_)))))))));refine Ag U (AN U (.bool _) U (Ab ?_));exact⟨rfl,(),rfl,⟨qab Value.bool (by rw[hib]at *;rw[qar];simp_all;try omega),trivial⟩,H⟩
  .intro h2;replace h2:=Bw h2;refine Ae U (Be U U (AM U (.bool _) U (AF U (AQ 35 U ?_ ?_))))
   .intro h3;replace h3:=Bv h3;refine Ag U (Ag U (Ag U (Ag U (Ag U (Ag U (Ag U (AN U (.bool _) U (Ab ?_))))))));exact⟨rfl,(),rfl,⟨qab Value.bool (by rw[hib]at *;rw[qar];simp_all;try omega),trivial⟩,H⟩
   .intro h4;replace h4:=Bw h4;refine Ae U (Be U U (AF U (AQ 38 U ?_ ?_)))
    .intro h5;replace h5:=Bv h5;refine Af Dy U (AH Ge U H at0 U (Cl U (AN U (.bool _) U (AM U (.bool _) U (Ab ?_)))));exact⟨rfl,(),rfl,⟨qab Value.bool (by rw[hib]at *;rw[qar];simp_all;try omega),trivial⟩,H⟩
    .intro h6;replace h6:=Bw h6;refine Ag U (Ag U (Ag U (AM U (.bool _) U (AM U (.bool _) U (Ab ?_)))));exact⟨rfl,(),rfl,⟨qab Value.bool (by rw[hib]at *;rw[qar];simp_all;try omega),trivial⟩,H⟩
 rintro - j43 w H;have hx0:∀{z:World},Ext [b2] w16 z->Ext [] w0 z:=fun{z} h=>Hold.ext.then h (fun x hx => .inr (by rw[qaa.1 hx];exact hge));refine Av _ U ?_ ?_
 .intro h1;replace h1:=C8 h1;have hP:=hP0 h1;rw[if_neg (by simp)]at hP;refine Ad (B5 [.bool false,.slice none 0 0] Hd Co ?_);refine Bo Bg U U U (by simp[Bh]) H at1 U ?_;rintro w H;refine Am U (qA (A6 (Ao (Du U U U BQ Bg H at1 U (show _=(.bool _)from rfl) ?_))));exact⟨false,none,0,0,by rw[hP];rfl,hx0 H.ext,fun i L h=>by rw[hP]at h;cases h⟩
 .intro h1;replace h1:=CA h1;have hP:=hP0 h1;rw[if_pos rfl]at hP;simp only[qao,qaq]at h1;obtain⟨hg2,hnx2⟩:=h0 h1.2.1;subst hnx2;rw[List.drop_zero]at hg2;rw[<-hg2]at hP
  refine Ap (Aa (Ar (Ad (Ae U (Ae U (qA (AB (B6 295147834810608663048 (α:=Nat × Nat × List Im × Option Addr × Nat × List Value) (fun s=>[(46,.int .u64 (s.1:Int)),(9,.int .i64 (s.2.1:Int))]) (fun s w'=>s.1<=g/\s.2.1<=505/\Ctx w16 [b2] w' ([(b7,Bl 183 [.bool ib,.slice s.2.2.2.1 s.2.2.1.length s.2.2.2.2.1]),(b2,Bl 183 [.bool false,.slice none 0 0])]++ent s.2.2.2.1 185 s.2.2.2.2.2)/\OS s.2.2.2.1 s.2.2.1.length s.2.2.2.2.1 3 s.2.2.2.2.2 (s.2.2.1.flatMap Im.enc)/\(∀m∈s.2.2.1,m.Ok w' (Aiv w0 (([(b7,Bl 183 [.bool ib,.slice s.2.2.2.1 s.2.2.1.length s.2.2.2.2.1]),(b2,Bl 183 [.bool false,.slice none 0 0])]++ent s.2.2.2.1 185 s.2.2.2.2.2).map (·.1)))/\OkL (BE b) m.it)/\s.2.2.1.length=s.1/\Fv ib (BE b) g 2=(Fv ib (BE b) (g - s.1) s.2.1).map fun r=>(s.2.2.1.map (·.it)++r.1,r.2)) (fun s=>g - s.1) (0,2,[],none,0,[]) U ?_ ?_ ?_))))))))
  .exact⟨rfl,rfl,trivial⟩
  .refine⟨qak _,by decide,H,OS.nil,(fun m h=>by cases h),rfl,?_⟩;dsimp only;rw[Nat.sub_zero];cases Fv ib (BE b) g 2 <;> rfl
  .rintro⟨k,at',ms,aa,cc,full⟩ j w ⟨hk,hat,H,O,hms,hml,hpg⟩;dsimp only at hk hat H O hms hml hpg;dsimp only;refine Ad (Bj U U (qA (Ar (Av _ U ?_ ?_))))
   .intro h2;replace h2:=AR h2;rw[show g - k=(g - (k+1))+1 by omega]at hpg;refine Ap (Aa (Ar (AB (Ad (Af Dy U (AH Ge U H at0 U (Ah U (Ae U (Aj qB (Apg ib a5 c5 _ (BE b) at' _ (R5 H.ext) U hc5) U ?_)))))))));have hszw:=(fun y hy=>Al (H.blk y hy));have hEw:=hx0 H.ext;rintro v w1 ⟨x,nx,e,rfl,hx53,hxo,hnxb,hkl,hvl,hpl,he0,he1⟩;have Hold2:=H.call hx53;replace H:=Ctx.startL (fun x hx=>Hold2.blk x hx) Hold2.nd;refine AW U (Ai U U (Ai U U (Ai U U (Bi C2 H ?_))));rintro b11 w - H;refine Bo Bn U U U (by exact Im.oneE _) H at0 U ?_;rintro w H;refine Ac U (Ac U (qA (Ar (Ad (Ae U (Be U U (qA (Av _ U ?_ ?_))))))))
    .intro h3;replace h3:=Bv h3;rw[Qb (he1 h3)]at hpg;rw[hpg]at hP;have hxx:Ext [] w0 w1:=hx0 Hold2.ext;refine Ad (B5 [.bool false,.slice none 0 0] Hd Co ?_);refine Bo Bg U U U (by simp[Bh]) H at2 U ?_;rintro w H;refine Am U (qA (A6 (Ao (AK (Ao (Ao (AK (Ao (Du U U U BQ Bg H at2 U (show _=(.bool _)from rfl) ?_)))))))));refine⟨false,none,0,0,by rw[hP];rfl,hxx.then H.ext (fun y hy => .inr ?_),fun i L h=>by rw[hP]at h;cases h⟩;obtain⟨z,hz,rfl⟩:=qah.1 hy
     rcases Hold2.own z hz with h5|h5
     .rw[qaa.1 h5];exact hge
     .have:=Hold.ext.size;omega
    .intro h3;replace h3:=Bw h3;have hone:=he0 h3;rw[Qc hone]at hpg;refine Ap (Aa (Au (Af Br U (AH BT U H at1 U (BO Dq Bn U H at0 U (BI _ (.agg _) Bu Bn C2 U U U U H ?_))))));rintro b63 w - H;refine BL (L:=[_,_,_]) Bu Bu Bn Kn C2 U U U H O U (Im.oneE x) ?_;rintro a64 c64 full64 w H O;refine Ae U (Af Br U (Bf (.slice _ _ _) CP U U U H at1 (by(simp;done)) ?_));rintro w H;refine Ac U (Ab (AE (Aa (Au (Kh U U U ?_)))));refine Ae U (qA ?_);have hL1:(ms++[x]).length=ms.length+1:=by simp
     have H2:Ctx w1 (([(b7,Bl 183 [.bool ib,.slice aa ms.length cc]),(b2,Bl 183 [.bool false,.slice none 0 0])]++ent aa 185 full).map (·.1)) w ([(b7,Bl 183 [.bool ib,.slice a64 (ms++[x]).length c64]),(b2,Bl 183 [.bool false,.slice none 0 0])]++ent a64 185 full64):=by rw[hL1];exact H.tail
     have G:=Aiw (w0:=w0) H2;refine⟨(k+1,nx,ms++[x],a64,c64,full64),rfl,⟨rfl,rfl,trivial⟩,⟨by dsimp only;omega,by dsimp only;omega,Ctx.nil_app (Ctx.back (L2:=[]) (Ctx.app_nil Hold2) H2),by dsimp only;rw[hL1,qbc];simpa using O,fun m hm=>?_,by dsimp only;omega,?_⟩,by dsimp only;omega⟩
     .dsimp only at hm |-
      rcases qat.1 hm with hm|hm
      .exact⟨((hms m hm).1.call hx53).turn G,(hms m hm).2⟩
      .rw[qaa.1 hm];refine⟨(hxo.weak fun y hy=>?_).turn G,hkl,hvl,hpl⟩
       rcases hy with hy|hy
       .exact qau hy hEw.size
       .obtain⟨z,hz,rfl⟩:=qah.1 hy;exact hszw z hz
     .dsimp only;rw[hpg]
      cases Fv ib (BE b) (g - (k+1)) nx with
      |none=>rfl
      |some r=>simp
   .intro h2;replace h2:=AU h2;have hkg:k=g:=by omega
    subst hkg;rw[qc1,Aix]at hpg;rw[hpg]at hP;simp only[qbd,qa3]at hP;have hxx:Ext [] w0 w:=hx0 H.ext;have Rm:=OS.rd O (fun x hx=>H.blk x (qax _ hx)) (fun _ _=>rfl) (by decide);obtain⟨wE,rfl⟩:=qD w;have hb7:wE.heap[b7]?=some (Bl 183 [.bool ib,.slice aa ms.length cc]):=H.get at0
    have hbs:b2≠b7:=fun e=>by
     have h5:=H.nd;simp[e]at h5
    have Hq:=H;have H:=Ctx.start1 (Hq.get at1);have hkeep:∀{z:World},Ext [b2] wE z->z.heap[b7]?=some (Bl 183 [.bool ib,.slice aa ms.length cc]):=fun{z} h=>by rw[h.block b7 (Al hb7) (by simp;exact fun e=>hbs e.symm)];exact hb7
    have hits:∀{z:World},Ext [b2] wE z->Its z (Old w0) aa ms.length cc (ms.map (·.it))/\∀y∈ms.map (·.it),OkL (BE b) y:=fun{z} hz=>by
     have hS:∀y∈[b2],w0.heap.size<=y/\y∈(([(b7,Bl 183 [.bool ib,.slice aa ms.length cc]),(b2,Bl 183 [.bool false,.slice none 0 0])]++ent aa 185 full).map (·.1)):=fun y hy=>by
      rw[qaa.1 hy];exact⟨hge,by simp⟩
     have G:Grown (Aiv w0 (([(b7,Bl 183 [.bool ib,.slice aa ms.length cc]),(b2,Bl 183 [.bool false,.slice none 0 0])]++ent aa 185 full).map (·.1))) (Aiv w0 (([(b7,Bl 183 [.bool ib,.slice aa ms.length cc]),(b2,Bl 183 [.bool false,.slice none 0 0])]++ent aa 185 full).map (·.1))) wE z:=⟨⟨[b2],fun y hy => .inr (hS y hy).2,hz⟩,fun y hy => .inl hy⟩;refine⟨⟨⟨ms,?_,?_,rfl,fun m hm=>((hms m hm).1.turn G).weak fun y hy => .inl hy⟩,by rw[qai],O.le⟩,fun y hy=>?_⟩
     .cases haa:aa with
      |none =>
       have h8:=O.le;have h9:=O.none' haa;rw[qa4 (show ms.length=0 by omega)];exact Rd.nil
      |some q =>
       rw[<-haa];refine Rm.ext hz fun hq=>?_;have h5:=Hq.nd;rw[haa]at h5 hq;simp only[qaa,adr]at hq;simp[ent,hq]at h5
     .cases haa:aa with
      |none=>exact .inl (qa4 (by have h8:=O.le;have h9:=O.none' haa;omega))
      |some q =>
       refine .inr fun hq=>?_;have h5:=Hq.own (q.block,Bl 185 full) (qax _ (by rw[haa];exact qaa.2 rfl));have h6:=Hold.ext.size;unfold Old at hq;simp only[adr]at hq
       rcases h5 with h5|h5
       .have:=qaa.1 h5;dsimp only at this;omega
       .dsimp only at h5;omega
     .obtain⟨m,hm,rfl⟩:=qah.1 hy;exact(hms m hm).2
    refine B2 (Aw (Aw (AZ (Aa (BV [([0,1,2,3,4,5,6,7,8,9,10],11),([],12)] (fun z=>z.heap[b7]?=some (Bl 183 [.bool ib,.slice aa ms.length cc])) [] mixed (hb7) ?_)))));refine AD U U (PN _ BQ Bg U U (fun _ hx=>(fun j v hv=>by rw[Aq hx,qa2];exact hv)) ?_);refine B0 U (B9 U (PO AX U (t_eql U U U (LV U U (KS 73 U ?_ ?_)))))
    .intro h3;replace h3:=AR h3;have h3':at'=(BE b).length:=by omega
     refine AC Br U (BC BT U (fun _ hx=>Aq hx (0+1)) ?_);refine PO Bu U (Am6 U U U (Ak1 U U (.bool _) U (AV ?_)));replace H:=H.drew;refine Bo Bg U U U (by simp[Bh]) H at0 U ?_;rintro w H;refine Ab (Bb (hkeep H.ext) (AD U U ?_));refine AV (Am U (Ab (Bb (hkeep H.ext) (B4 (A6 (Du U U U BQ Bg H at0 U (show _=(.bool _)from rfl) ?_))))));refine⟨ib,aa,ms.length,cc,?_,hx0 (Hq.ext.then H.ext fun y hy => .inl hy),fun i L h=>?_⟩
     .rw[hP]
      cases ms with
      |nil=>simp[Xo]
      |cons m ms=>simp[Xo,h3']
     .rw[hP]at h;simp only[Xo]at h
      split at h
      .injection h with h
       injection h with h5 h6
       subst h5 h6;exact⟨rfl,hits H.ext⟩
      .cases h
    .intro h3;replace h3:=AU h3;have h3':¬at'=(BE b).length:=by omega
     have hP':Es b=none:=by rw[hP];simp[Xo,h3']
     refine Cp U (Cp U (Cp U (Cp U (Aa0 U U (.bool _) U (AV ?_)))));replace H:=H.drew;refine Bo Bg U U U (by simp[Bh]) H at0 U ?_;rintro w H;refine Ab (Bb (hkeep H.ext) (AD U U ?_));refine AV (Am U (Ab (Bb (hkeep H.ext) (B4 (A6 (Du U U U BQ Bg H at0 U (show _=(.bool _)from rfl) ?_))))));exact⟨ib,aa,ms.length,cc,by rw[hP'];rfl,hx0 (Hq.ext.then H.ext fun y hy => .inl hy),fun i L h=>by rw[hP']at h;cases h⟩
def stv(s:Nat):Value := .int .u8 (s:Int)
def TPg:Nat:=145
def TSt:Nat:=146
structure PgAt(w:World)(bp ba:Nat)(P:List Nat):Prop where
 hd:w.heap[bp]?=some (Bl TPg [.slice (some ⟨ba,0,none⟩) P.length P.length])
 st:w.heap[ba]?=some (Bl TSt (P.map stv))
 ne:bp≠ba
 ok:∀s∈P,s<=3
 len:P.length<=4096
def CW(P:List Nat):Nat:=(P.takeWhile fun s=>decide (s≠0)).length
def EC(P:List Nat)(k:Nat):List Nat:=if P[k]?=some 1 then P.set k 3 else if P[k]?=some 2 then P.set k 0 else P
def BN(s:Nat):Nat:=if s=2 then 1 else if s=3 then 0 else s
def DC(s:Nat):Nat:=if s=2 then 0 else if s=3 then 1 else s
def DD(P:List Nat):Nat:=P.countP fun s=>decide (s=0)
theorem PgAt.keep{w w':World}{bp ba:Nat}{P:List Nat}{S:List Nat}(h:PgAt w bp ba P)(hx:Ext S w w')(h1:bp∉S)(h2:ba∉S):PgAt w' bp ba P :=
 ⟨by rw[hx.block bp (Al h.hd) h1];exact h.hd,by rw[hx.block ba (Al h.st) h2];exact h.st,h.ne,h.ok,h.len⟩
theorem Mm{w:World}{ba t:Nat}{P:List Nat}{k s:Nat}(h:w.heap[ba]?=some (Bl t (P.map stv)))(hk:P[k]?=some s):w.cell? ⟨ba,0+k*1,none⟩=some (stv s):=by
 rw[Aq h,qa2,qcj,qas,hk];rfl
theorem Api(P:List Nat)(k s:Nat):(P.map stv).set k (stv s)=(P.set k s).map stv:=by rw[qdx]
theorem PgAt.set{w w':World}{bp ba:Nat}{P:List Nat}(h:PgAt w bp ba P)(hx:Ext [ba] w w'){k s:Nat}(hs:s<=3)(hb:w'.heap[ba]?=some (Bl TSt ((P.map stv).set k (stv s)))):PgAt w' bp ba (P.set k s) :=
 ⟨by rw[hx.block bp (Al h.hd) (by simpa using h.ne),qch];exact h.hd,by rw[hb,Api],h.ne,fun x hx=>(qfe hx).elim (h.ok x) (fun e=>e ▸ hs),by rw[qch];exact h.len⟩
section
variable {w:World}{bp ba:Nat}{P:List Nat}
theorem Od(h:PgAt w bp ba P):Ret prog 114 #[ptr bp] w fun v w'=>v=.int .i64 (P.length:Int)/\w=w':=by
 obtain⟨w0,rfl⟩:=qD w;refine A8 (fn:=f114) func114 U [.pointer (some ⟨bp,0,none⟩)] U ?_;refine Ad (Ac U (qA (Ar (Ad (An U (BU Sh U ?_))))));refine qA (Bz U (Ap (Aa (Ad (An U (A7 U (Af DW U (Bd Gd U (Aq h.hd (0+0)) ?_))))))));refine AO EQ U (Ac U (qA (A6 (AG (v:=(.int _ _)) U U U ?_))));exact⟨rfl,rfl⟩
def Oe(P:List Nat)(k:Int):Bool:=decide (0<=k) && decide (k<(P.length:Int))
theorem Abu(h:PgAt w bp ba P)(k:Int):Ret prog 150 #[ptr bp,.int .i64 k] w fun v w'=>v=.bool (Oe P k)/\w=w':=by
 obtain⟨w0,rfl⟩:=qD w;refine A8 (fn:=f150) func150 U [.pointer (some ⟨bp,0,none⟩),.int .i64 k] U ?_;refine Ad (Am U (qA (Ad (An U (Uq U Sh U ?_)))));refine AF U (Ae U (Ie U U (AN U (.bool _) U (AF U (AQ 11 U ?_ ?_)))))
 .intro h1;replace h1:=AR h1;refine Ae U (An U (A7 U (Af DW U (Bd Gd U (Aq h.hd (0+0)) ?_))));refine AO EQ U (Bj U U (AN U (.bool _) U (Am U (qA (A6 (AG (v:=(.bool _)) U U U ?_))))));exact⟨qab Value.bool (by unfold Oe;rw[qar];simp_all;try omega),rfl⟩
 .intro h2;replace h2:=AU h2;refine Ag U (Ag U (Ag U (Ag U (Ag U (Ag U (Ag U (AM U (.bool _) U (Am U (qA ?_)))))))));refine A6 (AG (v:=(.bool _)) U U U ?_);exact⟨qab Value.bool (by unfold Oe;rw[qar];simp_all;try omega),rfl⟩
theorem VY(h:PgAt w bp ba P)(k:Int):Ret prog 132 #[ptr bp,.int .i64 k] w fun v w'=>v=.int .i64 (bif Oe P k then 0 else 1)/\w=w':=by
 obtain⟨w0,rfl⟩:=qD w;refine A8 (fn:=f132) func132 U [.pointer (some ⟨bp,0,none⟩),.int .i64 k] U ?_;refine Ad (Ac U (qA (Ar (AB (Ad (An U (BU Sh U ?_)))))));refine Am U (qA (Bz U (Ad (An U (Ae U (Aj qB (Abu h k) U ?_))))));rintro v w ⟨rfl,rfl⟩;refine Cl U (Am U (qA (Av _ U ?_ ?_)))
 .intro h1;replace h1:=C8 h1;refine Ad (Ac U (qA (A6 (AK (Ao (AG (v:=(.int _ _)) U U U ?_))))));exact⟨by rw[show Oe P k=false by simpa using h1];rfl,rfl⟩
 .intro h1;replace h1:=CA h1;refine Ap (AE (Aa (Ad (Ac U (qA (A6 (AG (v:=(.int _ _)) U U U ?_)))))));exact⟨by rw[show Oe P k=true by simpa using h1];rfl,rfl⟩
theorem Xq{P:List Nat}{k:Nat}(h1:∀j x,j<k->P[j]?=some x->x≠0)(hk:k<=P.length)(h2:∀x,P[k]?=some x->x=0):CW P=k :=
 HJ (fun j x hj hx=>qal (h1 j x hj hx)) hk fun x hx=>qag (fun h=>h (h2 x hx))
theorem Ai0(h:PgAt w bp ba P):Ret prog 157 #[ptr bp] w fun v w'=>(CW P<P.length/\v=.tuple #[.int .i64 (CW P:Int),.int .i64 0]/\PgAt w' bp ba (P.set (CW P) 2)/\Ext [ba] w w')\/(CW P=P.length/\v=.tuple #[.int .i64 0,.int .i64 7]/\w=w'):=by
 obtain⟨w0,rfl⟩:=qD w;have hlen:=h.len;refine A8 (fn:=f157) func157 U [.pointer (some ⟨bp,0,none⟩)] U ?_;refine Ad (Ac U (Ac U (qA (Ar (Ad (An U (BU Sh U ?_)))))));refine qA (Bz U (Ap (Aa (Ar (Ad (An U (A7 U (Af DW U (Bd Gd U (Aq h.hd (0+0)) ?_)))))))));refine AO EQ U (Ae U (qA (AB (B6 268427324 (α:=Nat) (fun i=>[(13,.int .i64 (i:Int))]) (fun i w'=>w0=w'/\i<=P.length/\∀j x,j<i->P[j]?=some x->x≠0) (fun i=>P.length - i) 0 U ?_ ?_ ?_))))
 .exact⟨rfl,trivial⟩
 .exact⟨rfl,qak _,fun j x hj=>absurd hj (qc3 _)⟩
 .rintro i j w ⟨rfl,hi,hb⟩;refine Ad (Bj U U (qA (Ar (Av _ U ?_ ?_))))
  .intro h1;replace h1:=AR h1;obtain⟨s,hs⟩:=AP (l:=P) (i:=i);have hs3:=h.ok s (qad hs);refine Ap (Aa (Ar (AB (Ad (Ae U (Ca EQ Em U U ?_))))));refine Bd OX U (Mm h.st hs) ?_;refine Ac U (Ac U (qA (Ad (Ae U (BA U U (qA (Av _ U ?_ ?_)))))))
   .intro h2;replace h2:=AR h2;have ht:CW P=i:=Xq hb hi (fun x hx=>by rw[hs]at hx;cases hx;omega);have H:=Ctx.start1 h.st;refine Ad (An U (A7 U (Af DW U (Bd Gd U (Aq h.hd (0+0)) ?_))));refine Ae U (Ca EQ Em U U ?_);refine Bf (.int _ _) Em U U U H at0 (by(simp;omega)) ?_;rintro w H;refine qA (Ad (Ae U (Ac U (Ac U (qA (A6 (AK (Ao (Ao (AK (Ao (Cs (v1:=(.int _ _)) (v2:=(.int _ _)) U U U U ?_))))))))))));refine .inl ⟨by omega,by rw[ht],?_,H.ext⟩;rw[ht];exact h.set H.ext (by decide) (by rw[H.get at0];simp[stv])
   .intro h2;replace h2:=AU h2;refine Ap (AE (Aa (Au (Ay U U ?_))));refine Ae U (qA ?_);refine⟨i+1,rfl,⟨rfl,trivial⟩,⟨rfl,by omega,fun j x hj hx=>?_⟩,by omega⟩
    rcases qbr j i with h3|h3
    .exact hb j x h3 hx
    .obtain rfl:j=i:=by omega
     rw[hs]at hx;cases hx;omega
  .intro h1;replace h1:=AU h1
   have ht:CW P=P.length:=by
    have hii:i=P.length:=by omega
    subst hii;exact Xq hb (qae _) (fun x hx=>by have:=(qap.1 hx).1;omega)
   refine B2 (Aw (Aw (AZ (Aa (Ad (Ac U (Ac U (qA (A6 (Cs (v1:=(.int _ _)) (v2:=(.int _ _)) U U U U ?_))))))))));exact .inr ⟨ht,rfl,rfl⟩
theorem Xr(h:PgAt w bp ba P)(k:Nat)(hk:k<P.length):Ret prog 94 #[ptr bp,.int .i64 (k:Int)] w fun v w'=>(∃e,v=.int .i64 e)/\PgAt w' bp ba (EC P k)/\Ext [ba] w w':=by
 obtain⟨w0,rfl⟩:=qD w;have hlen:=h.len;obtain⟨s,hs⟩:=AP (l:=P) (i:=k) (h:=hk);have hs3:=h.ok s (qad hs);have hh:Oe P (k:Int)=true:=by unfold Oe;simp;omega
 have H:=Ctx.start1 h.st;have hpz:∀{z:World},Ext [ba] w0 z->z.heap[bp]?=some (Bl TPg [.slice (some ⟨ba,0,none⟩) P.length P.length]):=fun{z} hz=>by rw[hz.block bp (Al h.hd) (by simpa using h.ne)];exact h.hd
 refine A8 (fn:=f94) func94 U [.pointer (some ⟨bp,0,none⟩),.int .i64 (k:Int)] U ?_;refine Ad (Ac U (qA (Ar (Ad (An U (Ae U (Aj qB (VY h (k:Int)) U ?_)))))));rintro v w ⟨rfl,rfl⟩;rw[hh];refine Ac U (qA (Ad (Ae U (Be U U (qA (Bz U (Ap (Aa (Ar (Ad ?_))))))))));refine An U (A7 U (Af DW U (Bd Gd U (Aq (hpz H.ext) (0+0)) ?_)));refine Ae U (Ca EQ Em U U ?_);refine Bd OX U (Mm (H.get at0) hs) (qA (AB (Ad (BA U U (Am U (qA (Av _ U ?_ ?_)))))))
 .intro h1;replace h1:=AR h1;have h1':P[k]?=some 1:=by rw[hs];congr 1;omega
  refine Au (An U (A7 U (Af DW U (Bd Gd U (Aq (hpz H.ext) (0+0)) ?_))));refine Ae U (Ca EQ Em U U ?_);refine Bf (.int _ _) Em U U U H at0 (by(simp;omega)) ?_;rintro w H;refine Ab (AE (Aa (Ad (Ac U (qA (A6 (AG (v:=(.int _ _)) U U U ?_)))))));exact⟨⟨_,rfl⟩,by rw[EC,if_pos h1'];exact h.set H.ext (by decide) (by rw[H.get at0];simp[stv]),H.ext⟩
 .intro h1;replace h1:=AU h1;have h1':¬P[k]?=some 1:=by rw[hs];intro e;cases e;omega
  refine Ad (BA U U (Am U (qA (Av _ U ?_ ?_))))
  .intro h2;replace h2:=AR h2;have h2':P[k]?=some 2:=by rw[hs];congr 1;omega
   refine Au (An U (A7 U (Af DW U (Bd Gd U (Aq (hpz H.ext) (0+0)) ?_))));refine Ae U (Ca EQ Em U U ?_);refine Bf (.int _ _) Em U U U H at0 (by(simp;omega)) ?_;rintro w H;refine Ab (AE (Aa (Ad (Ac U (qA (A6 (AG (v:=(.int _ _)) U U U ?_)))))));exact⟨⟨_,rfl⟩,by rw[EC,if_neg h1',if_pos h2'];exact h.set H.ext (by decide) (by rw[H.get at0];simp[stv]),H.ext⟩
  .intro h2;replace h2:=AU h2;have h2':¬P[k]?=some 2:=by rw[hs];intro e;cases e;omega
   refine Ad (Ac U (qA (A6 (AK (Ao (AG (v:=(.int _ _)) U U U ?_))))));exact⟨⟨_,rfl⟩,by rw[EC,if_neg h1',if_neg h2'];exact h,H.ext⟩
theorem Z9(h:PgAt w bp ba P):Ret prog 56 #[ptr bp] w fun v w'=>v=.int .i64 0/\PgAt w' bp ba (P.map BN)/\Ext [ba] w w':=by
 obtain⟨w0,rfl⟩:=qD w;have hlen:=h.len;have H:=Ctx.start1 h.st;have hpz:∀{z:World},Ext [ba] w0 z->z.heap[bp]?=some (Bl TPg [.slice (some ⟨ba,0,none⟩) P.length P.length]):=fun{z} hz=>by rw[hz.block bp (Al h.hd) (by simpa using h.ne)];exact h.hd
 refine A8 (fn:=f56) func56 U [.pointer (some ⟨bp,0,none⟩)] U ?_;refine Ad (Ac U (qA (Ar (Ad (An U (BU Sh U ?_))))));refine qA (Bz U (Ap (Aa (Ar (Ad (An U (A7 U (Af DW U (Bd Gd U (Aq (hpz H.ext) (0+0)) ?_)))))))));refine AO EQ U (Ae U (qA (AB (B6 34359734296 (α:=Nat) (fun i=>[(12,.int .i64 (i:Int))]) (fun i w'=>i<=P.length/\Ctx w0 [ba] w' [(ba,Bl TSt (((P.take i).map BN++P.drop i).map stv))]) (fun i=>P.length - i) 0 U ?_ ?_ ?_))))
 .exact⟨rfl,trivial⟩
 .exact⟨qak _,H⟩
 .rintro i j w ⟨hi,H⟩;refine Ad (Bj U U (qA (Ar (Av _ U ?_ ?_))))
  .intro h1;replace h1:=AR h1;obtain⟨s,hs⟩:=AP (l:=P) (i:=i);have hs3:=h.ok s (qad hs);have hlt:((P.take i).map BN).length=i:=by rw[qai,qa0];omega
   have hmid:((P.take i).map BN++P.drop i)[i]?=some s:=by
    rw[qc8 (by omega),hlt,qc1,qcm,qc9,hs]
   have hset:∀x,BN s=x->((P.take i).map BN++P.drop i).set i x=(P.take (i+1)).map BN++P.drop (i+1):=fun x hx=>by
    rw[qff _ _ (by omega),hlt,qc1,Bp hs,qay,qa1]
    congr 1
    rw[Ew hs,qe2,qe3,hx];rfl
   have hsame:BN s=s->(P.take i).map BN++P.drop i=(P.take (i+1)).map BN++P.drop (i+1):=fun hx=>by
    rw[Bp hs,qay,qa1]
    congr 1
    rw[Ew hs,qe3,hx];rfl
   refine Ap (Aa (Ar (AB (Ad (Ae U (Ca EQ Em U U ?_))))));refine Bd OX U (Mm (H.get at0) hmid) (Ac U (Ac U (qA (Ad (Ae U (qA (AB (Ad (BA U U (Am U ?_))))))))));refine qA (Av _ U ?_ ?_)
   .intro h2;replace h2:=AR h2;have he:BN s=1:=by unfold BN;rw[if_pos (by omega)]
    refine Au (An U (A7 U (Af DW U (Bd Gd U (Aq (hpz H.ext) (0+0)) ?_))));refine Ae U (Ca EQ Em U U ?_);refine Bf (.int _ _) Em U U U H at0 (by(simp;omega)) ?_;rintro w H;refine Ab (AE (AE (Aa (Au (Ay U U ?_)))));refine Ae U (qA ?_);have hs2:=hset _ he;rw[show(((P.take i).map BN++P.drop i).map stv).set (0+((i:Int)).toNat*1) (.int .u8 1)=(((P.take i).map BN++P.drop i).set i 1).map stv by rw[qdx];simp[stv]]at H;rw[hs2]at H;exact⟨i+1,rfl,⟨rfl,trivial⟩,⟨by omega,H⟩,by omega⟩
   .intro h2;replace h2:=AU h2;refine Ad (BA U U (Am U (qA (Av _ U ?_ ?_))))
    .intro h3;replace h3:=AR h3;have he:BN s=0:=by unfold BN;rw[if_neg (by omega),if_pos (by omega)]
     refine Au (An U (A7 U (Af DW U (Bd Gd U (Aq (hpz H.ext) (0+0)) ?_))));refine Ae U (Ca EQ Em U U ?_);refine Bf (.int _ _) Em U U U H at0 (by(simp;omega)) ?_;rintro w H;refine Ab (AE (AE (Aa (Au (Ay U U ?_)))));refine Ae U (qA ?_);have hs2:=hset _ he;rw[show(((P.take i).map BN++P.drop i).map stv).set (0+((i:Int)).toNat*1) (.int .u8 0)=(((P.take i).map BN++P.drop i).set i 0).map stv by rw[qdx];simp[stv]]at H;rw[hs2]at H;exact⟨i+1,rfl,⟨rfl,trivial⟩,⟨by omega,H⟩,by omega⟩
    .intro h3;replace h3:=AU h3;have he:BN s=s:=by unfold BN;rw[if_neg (by omega),if_neg (by omega)]
     rw[hsame he]at H;refine Ap (AE (AE (Aa (Au (Ay U U ?_)))));refine Ae U (qA ?_);exact⟨i+1,rfl,⟨rfl,trivial⟩,⟨by omega,H⟩,by omega⟩
  .intro h1;replace h1:=AU h1;have hii:i=P.length:=by omega
   subst hii;rw[qbf,qe4,qa3]at H;refine B2 (Aw (Aw (AZ (Aa (Ad (Ac U (qA (A6 (AG (v:=(.int _ _)) U U U ?_)))))))));refine⟨rfl,⟨by rw[hpz H.ext,qai],H.get at0,h.ne,fun x hx=>?_,by rw[qai];exact hlen⟩,H.ext⟩;obtain⟨y,hy,rfl⟩:=qah.1 hx;have:=h.ok y hy;unfold BN
   split
   .omega
   .split <;> omega
theorem Ai1(h:PgAt w bp ba P):Ret prog 91 #[ptr bp] w fun v w'=>v=.int .i64 0/\PgAt w' bp ba (P.map DC)/\Ext [ba] w w':=by
 obtain⟨w0,rfl⟩:=qD w;have hlen:=h.len;have H:=Ctx.start1 h.st;have hpz:∀{z:World},Ext [ba] w0 z->z.heap[bp]?=some (Bl TPg [.slice (some ⟨ba,0,none⟩) P.length P.length]):=fun{z} hz=>by rw[hz.block bp (Al h.hd) (by simpa using h.ne)];exact h.hd
 refine A8 (fn:=f91) func91 U [.pointer (some ⟨bp,0,none⟩)] U ?_;refine Ad (Ac U (qA (Ar (Ad (An U (BU Sh U ?_))))));refine qA (Bz U (Ap (Aa (Ar (Ad (An U (A7 U (Af DW U (Bd Gd U (Aq (hpz H.ext) (0+0)) ?_)))))))));refine AO EQ U (Ae U (qA (AB (B6 34359734296 (α:=Nat) (fun i=>[(12,.int .i64 (i:Int))]) (fun i w'=>i<=P.length/\Ctx w0 [ba] w' [(ba,Bl TSt (((P.take i).map DC++P.drop i).map stv))]) (fun i=>P.length - i) 0 U ?_ ?_ ?_))))
 .exact⟨rfl,trivial⟩
 .exact⟨qak _,H⟩
 .rintro i j w ⟨hi,H⟩;refine Ad (Bj U U (qA (Ar (Av _ U ?_ ?_))))
  .intro h1;replace h1:=AR h1;obtain⟨s,hs⟩:=AP (l:=P) (i:=i);have hs3:=h.ok s (qad hs);have hlt:((P.take i).map DC).length=i:=by rw[qai,qa0];omega
   have hmid:((P.take i).map DC++P.drop i)[i]?=some s:=by
    rw[qc8 (by omega),hlt,qc1,qcm,qc9,hs]
   have hset:∀x,DC s=x->((P.take i).map DC++P.drop i).set i x=(P.take (i+1)).map DC++P.drop (i+1):=fun x hx=>by
    rw[qff _ _ (by omega),hlt,qc1,Bp hs,qay,qa1]
    congr 1
    rw[Ew hs,qe2,qe3,hx];rfl
   have hsame:DC s=s->(P.take i).map DC++P.drop i=(P.take (i+1)).map DC++P.drop (i+1):=fun hx=>by
    rw[Bp hs,qay,qa1]
    congr 1
    rw[Ew hs,qe3,hx];rfl
   refine Ap (Aa (Ar (AB (Ad (Ae U (Ca EQ Em U U ?_))))));refine Bd OX U (Mm (H.get at0) hmid) (Ac U (Ac U (qA (Ad (Ae U (qA (AB (Ad (BA U U (Am U ?_))))))))));refine qA (Av _ U ?_ ?_)
   .intro h2;replace h2:=AR h2;have he:DC s=0:=by unfold DC;rw[if_pos (by omega)]
    refine Au (An U (A7 U (Af DW U (Bd Gd U (Aq (hpz H.ext) (0+0)) ?_))));refine Ae U (Ca EQ Em U U ?_);refine Bf (.int _ _) Em U U U H at0 (by(simp;omega)) ?_;rintro w H;refine Ab (AE (AE (Aa (Au (Ay U U ?_)))));refine Ae U (qA ?_);have hs2:=hset _ he;rw[show(((P.take i).map DC++P.drop i).map stv).set (0+((i:Int)).toNat*1) (.int .u8 0)=(((P.take i).map DC++P.drop i).set i 0).map stv by rw[qdx];simp[stv]]at H;rw[hs2]at H;exact⟨i+1,rfl,⟨rfl,trivial⟩,⟨by omega,H⟩,by omega⟩
   .intro h2;replace h2:=AU h2;refine Ad (BA U U (Am U (qA (Av _ U ?_ ?_))))
    .intro h3;replace h3:=AR h3;have he:DC s=1:=by unfold DC;rw[if_neg (by omega),if_pos (by omega)]
     refine Au (An U (A7 U (Af DW U (Bd Gd U (Aq (hpz H.ext) (0+0)) ?_))));refine Ae U (Ca EQ Em U U ?_);refine Bf (.int _ _) Em U U U H at0 (by(simp;omega)) ?_;rintro w H;refine Ab (AE (AE (Aa (Au (Ay U U ?_)))));refine Ae U (qA ?_);have hs2:=hset _ he;rw[show(((P.take i).map DC++P.drop i).map stv).set (0+((i:Int)).toNat*1) (.int .u8 1)=(((P.take i).map DC++P.drop i).set i 1).map stv by rw[qdx];simp[stv]]at H;rw[hs2]at H;exact⟨i+1,rfl,⟨rfl,trivial⟩,⟨by omega,H⟩,by omega⟩
    .intro h3;replace h3:=AU h3;have he:DC s=s:=by unfold DC;rw[if_neg (by omega),if_neg (by omega)]
     rw[hsame he]at H;refine Ap (AE (AE (Aa (Au (Ay U U ?_)))));refine Ae U (qA ?_);exact⟨i+1,rfl,⟨rfl,trivial⟩,⟨by omega,H⟩,by omega⟩
  .intro h1;replace h1:=AU h1;have hii:i=P.length:=by omega
   subst hii;rw[qbf,qe4,qa3]at H;refine B2 (Aw (Aw (AZ (Aa (Ad (Ac U (qA (A6 (AG (v:=(.int _ _)) U U U ?_)))))))));refine⟨rfl,⟨by rw[hpz H.ext,qai],H.get at0,h.ne,fun x hx=>?_,by rw[qai];exact hlen⟩,H.ext⟩;obtain⟨y,hy,rfl⟩:=qah.1 hx;have:=h.ok y hy;unfold DC
   split
   .omega
   .split <;> omega
theorem Xs{P:List Nat}{i s:Nat}(h:P[i]?=some s):DD (P.take (i+1))=DD (P.take i)+if s=0 then 1 else 0:=by
 unfold DD;rw[Bp h,List.countP_append]
 by_cases hs:s=0 <;> simp[hs]
theorem Ai2(P:List Nat):DD P<=P.length:=List.countP_le_length
theorem Adz(h:PgAt w bp ba P)(k:Nat){s:Nat}(hk:P[k]?=some s):Ret prog 122 #[ptr bp,.int .i64 (k:Int)] w fun v w'=>v=.int .u8 (s:Int)/\w=w':=by
 obtain⟨w0,rfl⟩:=qD w;have hlen:=h.len;have hkl:=YX hk;have hs3:=h.ok s (qad hk);have hh:Oe P (k:Int)=true:=by unfold Oe;simp;omega
 refine A8 (fn:=f122) func122 U [.pointer (some ⟨bp,0,none⟩),.int .i64 (k:Int)] U ?_;refine Ad (Ac U (qA (Ar (Ad (An U (Ae U (Aj qB (Abu h (k:Int)) U ?_)))))));rintro v w ⟨rfl,rfl⟩;rw[hh];refine Cl U (qA (Bz U (Ap (Aa (Ad (An U (A7 U (Af DW U (Bd Gd U (Aq h.hd (0+0)) ?_)))))))));refine Ae U (Ca EQ Em U U ?_);refine Bd OX U (Mm h.st hk) (Ac U (qA (A6 (AG (v:=(.int _ _)) U U U ?_))));exact⟨rfl,rfl⟩
end
theorem Alx(n:Nat)(h1:1<=n)(h2:n<=4096)(w:World):Ret prog 78 #[.int .i64 (n:Int)] w fun v w'=>∃bp ba,v=.tuple #[ptr bp,.int .i64 0]/\PgAt w' bp ba (List.replicate n 0)/\Ext [] w w'/\w.heap.size<=bp/\w.heap.size<=ba:=by
 obtain⟨w0,rfl,H⟩:=qE w;refine A8 (fn:=f78) func78 U [.int .i64 (n:Int)] U (Ad (B7 U (Ac U (qA (Ar (Ad (Ae U (Bj U U ?_))))))));rw[qag (show ¬(n:Int)<1 by omega)];refine AF U (Ae U (BZ U U ?_));rw[qag (show ¬(4096:Int)<(n:Int)by omega)];refine AM U (.bool _) U (qA (Bz U (Ap (Aa (Ad (Ae U (Q0 U EQ Em Aoa Ao9 U U H ?_)))))));rintro b11 w - H;rw[qbp]at H;rw[qbp];refine B5 [.slice (some ⟨b11,0,none⟩) n n] Ao4 Ao8 ?_;refine Cu [.slice (some ⟨b11,0,none⟩) n n] (.agg _) U U H ?_;rintro b13 w - H;refine B7 U (Ac U (qA (A6 (Cs (v1:=(.pointer _)) (v2:=(.int _ _)) U U U U ?_))));have hn:=H.nd
 refine⟨b13,b11,rfl,⟨by rw[H.get at0,qa8];rfl,by rw[H.get at1];simp[stv,TSt],fun e=>by simp[e]at hn,fun s hs=>by rw[(qed.1 hs).2];decide,by rw[qa8];exact h2⟩,H.ext,(H.own _ (qaf ..)).elim (fun h=>by cases h) id,(H.own _ (qaj _ (qaf ..))).elim (fun h=>by cases h) id⟩
theorem VZ{I:Nat->World->Prop}{E:Int->World->Prop}{bl:Nat}(fs:List Value)(w:World)(hl:fs.length<=100)(hI:I 0 w)(hb:∀i w',I i w'->w'.heap[bl]?=some (Bl 46 fs))(hfs:∀v∈fs,∃f fi caps,v=.func (.func f) fi caps)(hf:∀i f fi caps w',fs[i]?=some (.func (.func f) fi caps)->I i w'->Ax prog f=true/\Ret prog f (fi++caps) w' fun v w''=>∃e,v=.int .i64 e/\((e=0/\I (i+1) w'')\/(e≠0/\E e w''))) :
  Ret prog 37 #[.slice (some ⟨bl,0,none⟩) fs.length fs.length] w fun v w'=>∃e,v=.int .i64 e/\((e=0/\I fs.length w')\/(e≠0/\E e w')):=by
 obtain⟨w0,rfl⟩:=qD w;refine A8 (fn:=f37) func37 U [.slice (some ⟨bl,0,none⟩) fs.length fs.length] U ?_;refine Ad (Ac U (qA (Ar (Ad (Ah U (AO Pa U (Ae U (qA (AB ?_)))))))));refine B6 261940 (α:=Nat) (fun i=>[(8,.int .i64 (i:Int))]) (fun i w'=>i<=fs.length/\I i w') (fun i=>fs.length - i) 0 U ?_ ?_ ?_
 .exact⟨rfl,trivial⟩
 .exact⟨qak _,hI⟩
 .clear hI;rintro i j w ⟨hi,hI⟩;refine Ad (Bj U U (qA (Ar (Av _ U ?_ ?_))))
  .intro h1;replace h1:=AR h1;obtain⟨x,hx⟩:=AP (l:=fs) (i:=i);obtain⟨f,fi,caps,rfl⟩:=hfs x (qad hx);obtain⟨hc,hr⟩:=hf i f fi caps w hx hI;rw[show fi++caps=(fi++caps).toList.toArray from(Array.toArray_toList).symm]at hr;refine Ap (Aa (Ar (AB (Ad (Ca Pa WU U U ?_)))));refine Bd ag_46 U ((by rw[Aq (hb i w hI),qa2,qcj];exact hx)) ?_;refine Ei U (.func _ _ _) U (qA (Ad (DY U (.func _ _ _) U ?_)));refine KP U U hc hr (by simp) ?_;rintro v w ⟨e,rfl,he⟩;refine Ac U (qA (Ad (Ae U (Be U U (qA (Av _ U ?_ ?_))))))
   .intro h2;replace h2:=Bv h2;refine Ad (Ae U (Ac U (qA (A6 (AK (Ao (Ao (AK (Ao (AG (v:=(.int _ _)) U U U ?_))))))))));exact⟨e,rfl,.inr ⟨h2,(he.resolve_left fun h=>h2 h.1).2⟩⟩
   .intro h2;replace h2:=Bw h2;refine Ap (AE (Aa (Au (Ay U U ?_))));refine Ae U (qA ?_);exact⟨i+1,rfl,⟨rfl,trivial⟩,⟨by omega,(he.resolve_right fun h=>h.1 h2).2⟩,by omega⟩
  .intro h1;replace h1:=AU h1;obtain rfl:i=fs.length:=by omega
   refine B2 (Aw (Aw (AZ (Aa (Ad (Ac U (qA (A6 (AG (v:=(.int _ _)) U U U ?_)))))))));exact⟨0,rfl,.inl ⟨rfl,hI⟩⟩
theorem Ai3{I:Nat->World->Prop}{E:Int->World->Prop}{bl:Nat}(fs:List Value)(w:World)(hl:fs.length<=100)(hI:I 0 w)(hb:∀i w',I i w'->w'.heap[bl]?=some (Bl 46 fs))(hfs:∀v∈fs,∃f caps,v=.func (.func f) #[] caps)(hf:∀i f caps w',fs[i]?=some (.func (.func f) #[] caps)->I i w'->Ax prog f=true/\Ret prog f caps w' fun v w''=>∃e,v=.int .i64 e/\((e=0/\I (i+1) w'')\/(e≠0/\E e w''))) :
  Ret prog 37 #[.slice (some ⟨bl,0,none⟩) fs.length fs.length] w fun v w'=>∃e,v=.int .i64 e/\((e=0/\I fs.length w')\/(e≠0/\E e w')) :=
 VZ fs w hl hI hb (fun v hv=>let ⟨f,caps,h⟩:=hfs v hv;⟨f,#[],caps,h⟩) fun i f fi caps w' hi h=>by
  obtain⟨f',caps',h'⟩:=hfs _ (qad hi)
  injection h' with h1 h2 h3
  subst h2;rw[Array.empty_append];exact hf i f caps w' hi h
abbrev CN(vd vj vp vt:Value)(gen:Nat)(root:Int)(m1 m2:Nat)(n:Int)(dead:Bool):List Value:=[vd,vj,vp,vt,.int .u64 (gen:Int),.int .i64 root,.map (some m1),.map (some m2),.int .i64 n,.bool dead]
abbrev Gi:Value := .pointer none
theorem Its.past{w w1 w2:World}{a:Option Addr}{n c:Nat}{L:List It}{S:List Nat}(I:Its w (Old w1) a n c L)(he:Ext S w w2)(hS:∀x∈S,x<w1.heap.size):Its w2 (Old w1) a n c L :=
 I.turn ⟨⟨S,hS,he⟩,fun _ h => .inl h⟩
def TT:Nat:=162
def Qd(bd bp fr:Nat):List Value:=[ptr bd,ptr bp,.int .i64 (fr:Int)]
structure Tx(w:World)(bt bd bp ba fr:Nat)(A:Dev)(P:List Nat)(F:Mut)(L:List (Nat × Obj)):Prop where
 tr:w.heap[bt]?=some (Bl TT (Qd bd bp fr))
 pg:PgAt w bp ba P
 dev:DevAt w bd A F
 blk:∀x∈L,w.heap[x.1]?=some x.2
 nd:L.Pairwise fun x y=>x.1≠y.1
 off:∀x∈L,¬F x.1/\x.1≠ba/\x.1≠bt/\x.1≠bp
 nbt:¬F bt/\bt≠ba
 nbp:¬F bp
 nba:¬F ba
 lt:∀x,F x->x<w.heap.size
def TM(F:Mut)(ba bt bp:Nat)(L:List (Nat × Obj)):Mut:=fun x=>F x\/x=ba\/x=bt\/x=bp\/x∈L.map (·.1)
section
variable {w w':World}{bt bd bp ba fr:Nat}{A A':Dev}{P P':List Nat}{F F':Mut}{L L':List (Nat × Obj)}
theorem Tx.mlt(T:Tx w bt bd bp ba fr A P F L):∀x,TM F ba bt bp L x->x<w.heap.size:=fun x h=>by
 rcases h with h|rfl|rfl|rfl|h
 .exact T.lt x h
 .exact Al T.pg.st
 .exact Al T.tr
 .exact Al T.pg.hd
 .obtain⟨y,hy,rfl⟩:=qah.1 h;exact Al (T.blk y hy)
theorem Tx.ids(T:Tx w bt bd bp ba fr A P F L):∀x∈L.map (·.1),¬F x/\x≠ba/\x≠bt/\x≠bp:=fun x h=>by
 obtain⟨y,hy,rfl⟩:=qah.1 h;exact T.off y hy
theorem Tx.own(T:Tx w bt bd bp ba fr A P F L)(H:Ctx w (L.map (·.1)) w' L'):Tx w' bt bd bp ba fr A P F L'/\Grown (TM F ba bt bp L) (TM F ba bt bp L') w w':=by
 have hi:=T.ids;have hs:=H.ext.size
 have hnew:∀x∈L',¬F x.1/\x.1≠ba/\x.1≠bt/\x.1≠bp:=fun x hx=>by
  rcases H.own x hx with h|h
  .exact hi _ h
  .exact⟨fun hf=>by have:=T.lt _ hf;omega,fun e=>by have:=Al T.pg.st;omega,fun e=>by have:=Al T.tr;omega,fun e=>by have:=Al T.pg.hd;omega⟩
 refine⟨⟨?_,T.pg.keep H.ext (fun h=>(hi _ h).2.2.2 rfl) (fun h=>(hi _ h).2.1 rfl),T.dev.keep H.ext fun x h hf=>(hi x h).1 hf,H.blk,H.nd,hnew,T.nbt,T.nbp,T.nba,fun x h=>by have:=T.lt x h;omega⟩,⟨⟨L.map (·.1),fun x h => .inr (.inr (.inr (.inr h))),H.ext⟩,fun x h=>?_⟩⟩
 .rw[H.ext.block bt (Al T.tr) fun h=>(hi _ h).2.2.1 rfl];exact T.tr
 .rcases h with h|h|h|h|h
  .exact .inl (.inl h)
  .exact .inl (.inr (.inl h))
  .exact .inl (.inr (.inr (.inl h)))
  .exact .inl (.inr (.inr (.inr (.inl h))))
  .obtain⟨y,hy,rfl⟩:=qah.1 h;exact(H.own y hy).imp (fun h => .inr (.inr (.inr (.inr h)))) id
theorem Tx.ctx(T:Tx w bt bd bp ba fr A P F L):Ctx w (L.map (·.1)) w L:=Ctx.startL T.blk T.nd
theorem Tx.call(T:Tx w bt bd bp ba fr A P F L)(hx:Ext [] w w'):Tx w' bt bd bp ba fr A P F L:=(T.own (T.ctx.call hx)).1
theorem Grown.call0{F:Mut}(hx:Ext [] w w'):Grown F F w w':=⟨.of0 hx,fun _ h => .inl h⟩
theorem Tx.page(T:Tx w bt bd bp ba fr A P F L)(h:PgAt w' bp ba P')(hx:Ext [ba] w w'):Tx w' bt bd bp ba fr A P' F L/\Grown (TM F ba bt bp L) (TM F ba bt bp L) w w':=by
 have hs:=hx.size;refine⟨⟨?_,h,T.dev.keep hx fun x h hf=>by rw[qaa.1 h]at hf;exact T.nba hf,fun x hm=>?_,T.nd,T.off,T.nbt,T.nbp,T.nba,fun x h=>by have:=T.lt x h;omega⟩,⟨⟨[ba],fun x h => .inr (.inl (qaa.1 h)),hx⟩,fun x h => .inl h⟩⟩
 .rw[hx.block bt (Al T.tr) (by simpa using T.nbt.2)];exact T.tr
 .rw[hx.block x.1 (Al (T.blk x hm)) (by simpa using(T.off x hm).2.1)];exact T.blk x hm
theorem Tx.devs(T:Tx w bt bd bp ba fr A P F L)(h:DevAt w' bd A' F')(t:Turn F w w')(hF:∀x,F' x->F x\/(w.heap.size<=x/\x<w'.heap.size)):Tx w' bt bd bp ba fr A' P F' L/\Grown (TM F ba bt bp L) (TM F' ba bt bp L) w w':=by
 obtain⟨S,hS,hx⟩:=t;have hs:=hx.size;have hno:∀x,x<w.heap.size->¬F x->¬F' x:=fun x h1 h2 h3=>(hF x h3).elim h2 fun h=>by omega
 have hb:=Al T.tr;have hp:=Al T.pg.hd;have ha:=Al T.pg.st;refine⟨⟨?_,T.pg.keep hx (fun h=>T.nbp (hS _ h)) (fun h=>T.nba (hS _ h)),h,fun x hm=>?_,T.nd,fun x hm=>⟨hno _ (Al (T.blk x hm)) (T.off x hm).1,(T.off x hm).2⟩,⟨hno _ hb T.nbt.1,T.nbt.2⟩,hno _ hp T.nbp,hno _ ha T.nba,fun x h=>?_⟩,⟨⟨S,fun x h => .inl (hS x h),hx⟩,fun x h=>?_⟩⟩
 .rw[hx.block bt hb fun h=>T.nbt.1 (hS _ h)];exact T.tr
 .rw[hx.block x.1 (Al (T.blk x hm)) fun h=>(T.off x hm).1 (hS _ h)];exact T.blk x hm
 .rcases hF x h with h|h
  .have:=T.lt x h;omega
  .exact h.2
 .rcases h with h|h
  .exact(hF x h).imp .inl And.left
  .exact .inl (.inr h)
end
def Dp(A:Dev)(fr sz:Nat)(page depth:Int):Int × Option (Bool × List It) :=
 if 16<depth\/page<0\/(sz:Int)<=page then(9,none)
 else if GL A ((fr:Int)+page)=0 then(match Es (GM A ((fr:Int)+page))with|none=>(9,none)|some n=>(0,some n))
 else(GL A ((fr:Int)+page),none)
theorem Ad0{A:Dev}(h:Wf A)(k:Int):(GM A k).length<=512:=by
 unfold GM
 by_cases h0:GL A k=0
 .rw[qal h0,cond_true];unfold GL at h0
  cases ho:A.on with
  |false=>rw[ho]at h0;cases h0
  |true =>
   cases hh:A.has k with
   |false=>rw[ho,hh]at h0;cases h0
   |true =>
    have hl:k.toNat<A.B.length:=by simp only[Dev.has,qao,qaq]at hh;omega
    have hm:=NO (d:=(zeros,([]:List Byt))) (h:=hl);unfold stands
    cases hg:(A.B.getD k.toNat (zeros,[])).2.getLast? with
    |none=>rw[Option.getD_none,h.sure _ hm];exact qae _
    |some b=>rw[qdr,h.loose _ hm b (List.mem_of_getLast? hg)];exact qae _
 .rw[qag h0];exact qak _
section
variable {w:World}{bt bd bp ba fr:Nat}{A:Dev}{P:List Nat}{F:Mut}{L:List (Nat × Obj)}
theorem SK(T:Tx w bt bd bp ba fr A P F L)(hfr:fr<=5000)(page depth:Int)(hp : -9223372036854775808<=page/\page<=9223372036854775807){mx:Nat}(hfew:Few A mx)(hmx:mx<=1000000000) :
  Ret prog 181 #[ptr bt,.int .i64 page,.int .i64 depth] w fun v w'=>∃(inner:Bool) (a:Option Addr) (n c:Nat),v=.tuple #[.agg #[.bool inner,.slice a n c],.int .i64 (Dp A fr P.length page depth).1]/\Ext [] w w'/\∀i M,(Dp A fr P.length page depth).2=some (i,M)->inner=i/\Its w' (Old w) a n c M/\∀x∈M,x.key.length<=505/\x.val.length<=505/\x.page<4294967296:=by
 obtain⟨w0,rfl,H⟩:=qE w;have hlen:=T.pg.len;obtain⟨rd,hrd⟩:=qD (Dp A fr P.length page depth);rw[<-hrd];unfold Dp at hrd;refine A8 (fn:=f181) func181 U [.pointer (some ⟨bt,0,none⟩),.int .i64 page,.int .i64 depth] U ?_;refine Ad (Bi Co H ?_);rintro b6 w - H;refine Ac U (qA (Ar (Ad (BG (α:=Unit) 134213632 (fun _=>[(26,.bool (decide (16<depth) || (decide (page<0) || decide ((P.length:Int)<=page))))]) (fun _ w'=>Ctx w0 [] w' [(b6,Bl 183 [.bool false,.slice none 0 0])]) U ?_ ?_))))
 .refine Ae U (BZ U U (AF U (AQ 14 U ?_ ?_)))
  .intro h1;replace h1:=AR h1;refine Ag U (Ag U (AN U (.bool _) U (AF U (Ag U (Ag U (Ag U (Ag U (Ag U (Ag U ?_)))))))));refine Ag U (AN U (.bool _) U (Ab ?_));exact⟨rfl,(),rfl,⟨qab Value.bool (by rw[qar];simp;omega),trivial⟩,H⟩
  .intro h2;replace h2:=AU h2;refine Ae U (Bj U U (AM U (.bool _) U (AF U (AQ 18 U ?_ ?_))))
   .intro h3;replace h3:=AR h3;refine Ag U (Ag U (Ag U (Ag U (Ag U (Ag U (Ag U (AN U (.bool _) U (Ab ?_))))))));exact⟨rfl,(),rfl,⟨qab Value.bool (by rw[qar];simp;omega),trivial⟩,H⟩
   .intro h4;replace h4:=AU h4;refine Ae U (An U (A7 U (Af Lc U (Bd K2 U (Aq (T.call H.ext).tr (0+1)) ?_))));refine Aj qB (Od (T.call H.ext).pg) U ?_;rintro v w ⟨rfl,rfl⟩;refine Ie U U (AM U (.bool _) U (Ab ?_));exact⟨rfl,(),rfl,⟨qab Value.bool (by rw[qar];simp;omega),trivial⟩,H⟩
 rintro - j26 w H;refine Av _ U ?_ ?_
 .intro h1;rw[if_pos (by simpa using h1)]at hrd;refine Ad (B5 [.bool false,.slice none 0 0] Hd Co ?_);refine Bo Bg U U U (by simp[Bh]) H at0 U ?_;rintro w H;refine Ac U (qA (A6 (Ao (Du U U U BQ Bg H at0 U (show _=(.int _ _)from rfl) ?_))));exact⟨false,none,0,0,by rw[hrd],H.ext,fun i M h=>by rw[hrd]at h;cases h⟩
 .intro h1;have hn1:¬(16<depth\/page<0\/(P.length:Int)<=page):=(by intro h5;have h6:(decide (16<depth) || (decide (page<0) || decide ((P.length:Int)<=page)))=true:=(by simpa using h5);rw[h1]at h6;cases h6);rw[if_neg hn1]at hrd;have hb6:=H.get at0;have hx6:=H.ext;obtain⟨wb,rfl⟩:=qD w;have Tb:=T.call hx6;refine Ap (Aa (BV [([0,1,2,3,4,5,6,7,8,9],10),([11,12,13,14],15)] (fun z=>Ext [] wb z) [] mixed (Ext.drew [] wb) ?_));refine AD U U (C1 U (Bm U (AC WS U (BC Dm U (fun _ hx=>Aq (Tb.call hx).tr (0+0)) ?_))));refine C1 U (Bm U (AC WT U (BC DV U (fun _ hx=>Aq (Tb.call hx).tr (0+2)) ?_)));refine B0 U (Fl U U ?_);refine AV ?_
  skip
  refine Aj qB (Ss ((fr:Int)+page) hfew (Tb.call (Ext.drew [] wb)).dev) U ?_;rintro v w2 ⟨s39,rfl,F39⟩;obtain⟨a39,c39,rfl,R39,hc39⟩:=Fresh.rdB F39;refine Ab (Bb ((Ext.drew [] wb).trans F39.ext) (AD U U ?_));refine Iv U (C4 U U (C4 U U (IC U U (AV (Ac U (Ab (Bb ((Ext.drew [] wb).trans F39.ext) (B4 (Ar ?_)))))))));have hx39:=(Ext.drew [] wb).trans F39.ext;replace H:=(show Ctx w0 [] wb [(b6,Bl 183 [.bool false,.slice none 0 0])]from H).call hx39;refine Ad (Ae U (Be U U (qA (Av _ U ?_ ?_))))
  .intro h2;replace h2:=Bv h2;rw[if_neg h2]at hrd;refine Ad (B5 [.bool false,.slice none 0 0] Hd Co ?_);refine Ae U (Bo Bg U U U (by simp[Bh]) H at0 U ?_);rintro w H;refine Ac U (qA (A6 (Ao (Du U U U BQ Bg H at0 U (show _=(.int _ _)from rfl) ?_))));exact⟨false,none,0,0,by rw[hrd],H.ext,fun i M h=>by rw[hrd]at h;cases h⟩
  .intro h2;replace h2:=Bw h2;rw[if_pos h2]at hrd;have hrl:=Ad0 T.dev.wf ((fr:Int)+page);refine Ap (Aa (Ad (Ah U (Aj qB (Aiz a39 c39 _ (GM A ((fr:Int)+page)) _ R39 U hc39) U ?_))));have hb6l:=H.lt (k:=0) rfl;have hxw:=H.ext;rintro v w5 ⟨inner,aa,nn,cc,rfl,hx48,hits⟩;have Hold:=H.call hx48;replace H:=Ctx.startL (fun x hx=>Hold.blk x hx) Hold.nd;have hge:=(Hold.own _ (qaf ..)).elim (fun h=>by cases h) id;refine AW U (Ai U U (Ai U U (Bi Co H ?_)));rintro b10 w - H;refine Bo Bg U U U (by simp[Bh]) H at0 U ?_;rintro w H;refine Am U (qA (Ar (Ad (AF U (Cl U (qA (Av _ U ?_ ?_)))))))
   .intro h3;replace h3:=C8 h3;have hn:Es (GM A ((fr:Int)+page))=none:=by cases h:Es (GM A ((fr:Int)+page)) <;> simp_all
    rw[hn]at hrd;refine Ad (B5 [.bool false,.slice none 0 0] Hd Co ?_);refine Bo Bg U U U (by simp[Bh]) H at1 U ?_;rintro w H;refine Ac U (qA (A6 (Ao (Du U U U BQ Bg H at1 U (show _=(.int _ _)from rfl) ?_))));exact⟨false,none,0,0,by rw[hrd],Hold.ext.then H.ext (fun x hx => .inr (by rw[qaa.1 hx];exact hge)),fun i M h=>by rw[hrd]at h;cases h⟩
   .intro h3;replace h3:=CA h3;obtain⟨nd,hn⟩:∃nd,Es (GM A ((fr:Int)+page))=some nd:=by cases h:Es (GM A ((fr:Int)+page)) <;> simp_all
    rw[hn]at hrd;refine Ap (Aa (Ad (BO BQ Bg U H at0 U (Bo Bg U U U (by simp[Bh]) H at1 U ?_))));rintro w H;refine Ac U (qA (A6 (Du U U U BQ Bg H at1 U (show _=(.int _ _)from rfl) ?_)));refine⟨inner,aa,nn,cc,by rw[hrd],Hold.ext.then H.ext (fun x hx => .inr (by rw[qaa.1 hx];exact hge)),fun i M h=>?_⟩;rw[hrd]at h
    injection h with h
    subst h;obtain⟨h5,h6,h7⟩:=hits i M hn;refine⟨h5,(h6.past H.ext fun x hx=>by rw[qaa.1 hx];exact hb6l).weak (Old.mono hxw),fun x hx=>?_⟩;have h8:=h7 x hx;have h9:=Pj (GM A ((fr:Int)+page));unfold OkL at h8;omega
end
theorem Aly{w:World}{bd bp ba:Nat}{A:Dev}{F:Nat->Prop}{P:List Nat}(hD:DevAt w bd A F)(hP:PgAt w bp ba P)(frm:Int)(_ : -9223372036854775808<=frm)(_:frm<=9223372036854775807) :
  Ret prog 80 #[ptr bd,ptr bp,.int .i64 frm] w fun v w'=>Ext [] w w'/\((frm<0\/(A.B.length:Int) - (P.length:Int)<frm)/\v=.tuple #[.pointer none,.int .i64 1]\/(¬(frm<0\/(A.B.length:Int) - (P.length:Int)<frm)/\∃bt,v=.tuple #[ptr bt,.int .i64 0]/\w'.heap[bt]?=some (Bl TT [ptr bd,ptr bp,.int .i64 frm])/\w.heap.size<=bt)):=by
 obtain⟨w0,rfl⟩:=qD w;have hlen:=hP.len;obtain⟨role,bs,bm,sv,m,o,D,hF⟩:=hD;have hwf:=D.wf.hi;have H:=Ctx.start w0 [];refine A8 (fn:=f80) func80 U [.pointer (some ⟨bd,0,none⟩),.pointer (some ⟨bp,0,none⟩),.int .i64 frm] U ?_;refine Ad (B7 U (Ac U (qA (Ar (AB (Ad (An U (BU MK U ?_))))))));refine AF U (An U (BU Sh U ?_));refine AM U (.bool _) U (Am U (qA (Bz U (Ad (BG (α:=Unit) 134184960 (fun _=>[(15,.bool (decide (frm<0) || decide ((A.B.length:Int) - (P.length:Int)<frm)))]) (fun _ w'=>w0=w') U ?_ ?_)))))
 .refine Ae U (Bj U U (AF U (AQ 18 U ?_ ?_)))
  .intro h1;replace h1:=AR h1;refine Ag U (Ag U (Ag U (Ag U (Ag U (Ag U (Ag U (AN U (.bool _) U (Am U (Ab ?_)))))))));exact⟨rfl,(),rfl,⟨qab Value.bool (by(rw[qal h1]);rfl),trivial⟩,rfl⟩
  .intro h2;replace h2:=AU h2;refine Ae U (An U (Aj qB (Hf D.hd) U ?_));rintro v w ⟨rfl,rfl⟩;refine An U (Aj qB (Od hP) U ?_);rintro v w ⟨rfl,rfl⟩;refine BD U U (BZ U U (AM U (.bool _) U (Am U (Ab ?_))));exact⟨rfl,(),rfl,⟨qab Value.bool (by(rw[qag h2]);rfl),trivial⟩,rfl⟩
 rintro - j15 w rfl;refine Av _ U ?_ ?_
 .intro hA;refine Ad (B7 U (Ac U (qA (A6 (AK (Ao (Cs (v1:=(.pointer _)) (v2:=(.int _ _)) U U U U ?_)))))));exact⟨.refl _ _,.inl ⟨by simpa using hA,rfl⟩⟩
 .intro hA;refine Ap (AE (Aa (Ad (An U (An U (Ae U (B5 [ptr bd,ptr bp,.int .i64 frm] Ao5 Apa ?_)))))));refine Cu [ptr bd,ptr bp,.int .i64 frm] (.agg _) U U H ?_;rintro bt w - H;refine B7 U (Ac U (qA (A6 (Cs (v1:=(.pointer _)) (v2:=(.int _ _)) U U U U ?_))));refine⟨H.ext,.inr ⟨fun h=>?_,bt,rfl,H.get at0,(H.own _ (qaf ..)).elim (fun h=>by cases h) id⟩⟩;have h6:(decide (frm<0) || decide ((A.B.length:Int) - (P.length:Int)<frm))=true:=by simpa using h
  rw[hA]at h6;cases h6
abbrev CU:TypeId:=94
abbrev pgB(bp ba m:Nat):List (Nat × Obj):=[(bp,Bl TPg [.slice (some ⟨ba,0,none⟩) m m]),(ba,Bl TSt ((List.replicate m 0).map stv))]
theorem Apj{w0 w:World}{S:List Nat}{L:List (Nat × Obj)}{bp ba m:Nat}(H:Ctx w0 S w (pgB bp ba m++L))(hm:m<=4096):PgAt w bp ba (List.replicate m 0):=by
 have hn:=H.nd;refine⟨by rw[H.get at0,qa8],H.get at1,fun e=>by simp[e]at hn,fun s hs=>by rw[(qed.1 hs).2];decide,by rw[qa8];exact hm⟩
section
variable {w0 w:World}{b16 b2 b6 bs bd bm1 bm2 bsu bma m:Nat}{left:Int}{on:Bool}{gen:Nat}{o1 o2:Obj}{fv:List Value}
abbrev emB(b16 b2 b6 bs bd bm1 bm2 gen:Nat)(fv:List Value)(vp vt:Value)(o1 o2:Obj):List (Nat × Obj):=[(b16,Bl 46 fv),(b6,Bl 31 [ptr bs]),(bs,Bl CU (CN (ptr bd) Gi vp vt gen (-1) bm1 bm2 0 false)),(bm2,o2),(bm1,o1),(b2,Bl 27 [ptr bd])]
theorem Ad1(hd:w0.heap[bd]?=some (Bl TD (DB (m+362) bsu bma left on)))(hm:1<=m/\m<=4096)(H:Ctx w0 [] w (emB b16 b2 b6 bs bd bm1 bm2 gen fv Gi Gi o1 o2)) :
  Ret prog 77 #[ptr b2,ptr b6] w fun v w'=>v=.int .i64 0/\∃bp ba,Ctx w0 [] w' (emB b16 b2 b6 bs bd bm1 bm2 gen fv (ptr bp) Gi o1 o2++pgB bp ba m):=by
 refine A8 (fn:=Tryz.f77) func77 U [ptr b2,ptr b6] U ?_;refine Ad (Ac U (qA (BV [([0,1],2),([3],4),([5,6,7,8,9],10),([],11)] (fun z=>(z.heap[b6]?=some (Bl 31 [ptr bs])/\z.heap[b2]?=some (Bl 27 [ptr bd]))) [10,11] mixed (⟨H.drew.get at1,H.drew.get at5⟩) ?_)));refine AD U U (BC F6 U (fun _ hx=>(by rw[Aq hx.1];rfl)) ?_);refine BC Dm U (fun _ hx=>(by rw[Aq hx.2];rfl)) ?_;refine AV ?_;replace H:=H.drew;refine Aj qB (Hf (H.ext.to hd (by simp))) U ?_;rintro v w ⟨rfl,rfl⟩;refine Ab (Bb (⟨H.get at1,H.get at5⟩) (AD U U ?_));refine IB U U U (AV ?_);rw[show((m+362:Nat):Int) - 362=((m:Nat):Int)by omega];refine Aj qB (Alx m hm.1 hm.2 _) U ?_;rintro v w ⟨bp,ba,rfl,P,hx8,hbp,hba⟩
 replace H:Ctx w0 [] w (emB b16 b2 b6 bs bd bm1 bm2 gen fv Gi Gi o1 o2++pgB bp ba m):=H.callEnt hx8 (fun x hx=>by simp only[qac,qam,or_false]at hx;rcases hx with rfl|rfl;exact⟨by have:=P.hd;rw[qa8]at this;exact this,hbp⟩;exact⟨P.st,hba⟩) (by simpa using P.ne);refine Ab (Bb (⟨H.get at1,H.get at5⟩) (AD U U ?_));refine Iv U (C4 U U (C4 U U (Bm U (AC Jv U (AV (Bf (.pointer _) sz_89 U U U H at2 (by(simp;done)) ?_))))));rintro w H;refine Ab (CQ U (AD U U ?_));refine AV (Ac U (Ab (CQ U (B4 (Ad (Ae U (Ac U (qA (A6 (AG (v:=(.int _ _)) U U U ?_))))))))));exact⟨rfl,bp,ba,H⟩
abbrev trB(bt bd bp:Nat):List (Nat × Obj):=[(bt,Bl TT (Qd bd bp 362))]
theorem Ad2{bp ba:Nat}{F:Nat->Prop}{A:Dev}(D:DevAt w0 bd A F)(hl:A.B.length=m+362)(hm:1<=m/\m<=4096)(H:Ctx w0 [] w (emB b16 b2 b6 bs bd bm1 bm2 gen fv (ptr bp) Gi o1 o2++pgB bp ba m)) :
  Ret prog 79 #[ptr b2,ptr b6] w fun v w'=>v=.int .i64 0/\∃bt,Ctx w0 [] w' (emB b16 b2 b6 bs bd bm1 bm2 gen fv (ptr bp) (ptr bt) o1 o2++(pgB bp ba m++trB bt bd bp)):=by
 have hp:∀{w':World} {S:List Nat},Ctx w0 S w' ((emB b16 b2 b6 bs bd bm1 bm2 gen fv (ptr bp) Gi o1 o2)++pgB bp ba m)->PgAt w' bp ba (List.replicate m 0):=fun H=>Apj (L:=[]) (by rw[qa3];exact H.right) hm.2;refine A8 (fn:=f79) func79 U [ptr b2,ptr b6] U ?_;refine Ad (Ac U (qA (BV [([0,1,2,3,4,5],6),([7,8,9,10,11],12),([],13)] (fun z=>(z.heap[b6]?=some (Bl 31 [ptr bs])/\z.heap[b2]?=some (Bl 27 [ptr bd])/\z.heap[bs]?=some (Bl CU (CN (ptr bd) Gi (ptr bp) Gi gen (-1) bm1 bm2 0 false)))) [12,13] mixed (⟨H.drew.get at1,H.drew.get at5,H.drew.get at2⟩) ?_)));refine AD U U (BC F6 U (fun _ hx=>(by rw[Aq hx.1];rfl)) ?_);refine BC Dm U (fun _ hx=>(by rw[Aq hx.2.1];rfl)) ?_;refine BC F6 U (fun _ hx=>(by rw[Aq hx.1];rfl)) ?_;refine Bm U (AC Jv U (BC K2 U (fun _ hx=>(by rw[Aq hx.2.2];rfl)) ?_));refine AV ?_
 replace H:=H.drew;refine Aj qB (Aly (D.keep0 H.ext) (hp H) 362 (by decide) (by decide)) U ?_;rintro v w ⟨hx10,hT⟩;obtain⟨-,bt,rfl,hbt,hbtw⟩:=hT.resolve_left (by(rintro⟨h,-⟩;rw[hl,qa8]at h;omega));replace H:Ctx w0 [] w (emB b16 b2 b6 bs bd bm1 bm2 gen fv (ptr bp) Gi o1 o2++(pgB bp ba m++trB bt bd bp)):=(by rw[<-qa1];exact H.callEnt hx10 (fun x hx=>by rw[qaa.1 hx];exact⟨hbt,hbtw⟩) (by simp));refine Ab (Bb (⟨H.get at1,H.get at5,H.get at2⟩) (AD U U ?_));refine Iv U (C4 U U (C4 U U (Bm U (AC Kq U (AV (Bf (.pointer _) sz_90 U U U H at2 (by(simp;done)) ?_))))));rintro w H;refine Ab (CQ U (AD U U ?_));refine AV (Ac U (Ab (CQ U (B4 (Ad (Ae U (Ac U (qA (A6 (AG (v:=(.int _ _)) U U U ?_))))))))));exact⟨rfl,bt,H⟩
def emI(w0:World)(b16 b2 b6 bs bd bm1 bm2 gen m:Nat)(fv:List Value)(o1 o2:Obj):Nat->World->Prop
 |0,w'=>Ctx w0 [] w' (emB b16 b2 b6 bs bd bm1 bm2 gen fv Gi Gi o1 o2)
 |1,w'=>∃bp ba,Ctx w0 [] w' (emB b16 b2 b6 bs bd bm1 bm2 gen fv (ptr bp) Gi o1 o2++pgB bp ba m)
 |_,w'=>∃bp ba bt,Ctx w0 [] w' (emB b16 b2 b6 bs bd bm1 bm2 gen fv (ptr bp) (ptr bt) o1 o2++(pgB bp ba m++trB bt bd bp))
theorem Apk{i:Nat}(h:emI w0 b16 b2 b6 bs bd bm1 bm2 gen m fv o1 o2 i w):w.heap[b16]?=some (Bl 46 fv):=by
 match i,h with
 |0,h=>exact h.get at0
 |1,⟨_,_,h⟩=>exact h.left.get at0
 |_+2,⟨_,_,_,h⟩=>exact h.left.get at0
theorem emAll{F:Nat->Prop}{A:Dev}(D:DevAt w0 bd A F)(hl:A.B.length=m+362)(hm:1<=m/\m<=4096)(H:Ctx w0 [] w (emB b16 b2 b6 bs bd bm1 bm2 gen [.func (.func 77) #[] #[ptr b2,ptr b6],.func (.func 79) #[] #[ptr b2,ptr b6]] Gi Gi o1 o2)) :
  Ret prog 37 #[.slice (some ⟨b16,0,none⟩) 2 2] w fun v w'=>∃e,v=.int .i64 e/\((e=0/\emI w0 b16 b2 b6 bs bd bm1 bm2 gen m [.func (.func 77) #[] #[ptr b2,ptr b6],.func (.func 79) #[] #[ptr b2,ptr b6]] o1 o2 2 w')\/(e≠0/\False)):=by
 obtain⟨dn,ds,hhd⟩:=D.hd;refine Ai3 (E:=fun _ _=>False) [.func (.func 77) #[] #[ptr b2,ptr b6],.func (.func 79) #[] #[ptr b2,ptr b6]] w (by simp) (I:=emI w0 b16 b2 b6 bs bd bm1 bm2 gen m _ o1 o2) H (fun i w' h=>Apk h) (fun v hv=>?_) (fun i f caps w' hi h=>?_)
 .simp only[qac,qam,or_false]at hv
  rcases hv with rfl|rfl <;> exact⟨_,_,rfl⟩
 .match i,hi,h with
  |0,hi,h =>
   cases hi;exact⟨by kernel_rfl,(Ad1 (by rw[<-hl];exact hhd) hm h).mono fun v w'' ⟨hv,hc⟩=>⟨0,hv,.inl ⟨rfl,hc⟩⟩⟩
  |1,hi,⟨bp,ba,h⟩ =>
   cases hi;exact⟨by kernel_rfl,(Ad2 D hl hm h).mono fun v w'' ⟨hv,hc⟩=>⟨0,hv,.inl ⟨rfl,bp,ba,hc⟩⟩⟩
theorem Xt{F:Nat->Prop}{A:Dev}(w:World)(D:DevAt w bd A F)(hl:A.B.length=m+362)(hm:1<=m/\m<=4096)(gen:Nat) :
  Ret prog 36 #[ptr bd,.int .u64 (gen:Int)] w fun v w'=>∃bs bm1 bm2 o1 o2 bp ba bt,v=.tuple #[ptr bs,.int .i64 0]/\Ek str ([]:List (List UInt8 × Value)) o1/\Ek str ([]:List (List UInt8 × Value)) o2/\Ctx w [] w' ([(bs,Bl CU (CN (ptr bd) Gi (ptr bp) (ptr bt) gen (-1) bm1 bm2 0 false)),(bm2,o2),(bm1,o1)]++(pgB bp ba m++trB bt bd bp)):=by
 obtain⟨w0,rfl,H⟩:=qE w;obtain⟨dn,ds,hhd⟩:=D.hd;refine A8 (fn:=Tryz.f36) func36 U [ptr bd,.int .u64 (gen:Int)] U (Ad (Cu _ (.pointer _) U U H ?_));rintro b2 w - H;refine B7 U (Ac U (qA (Ad (AH Dm U H at0 U (Ae U (KV (κ:=List UInt8) str U H ?_))))));rintro b10 o10 w hM1 H;refine KV (κ:=List UInt8) str U H ?_;rintro b11 o11 w hM2 H;refine B5 (CN (ptr bd) Gi Gi Gi gen (-1) b10 b11 0 false) pl_94 zc_94 (Cu (CN (ptr bd) Gi Gi Gi gen (-1) b10 b11 0 false) (.agg _) U U H ?_);rintro bs w - H;refine Bi Ahu H ?_;rintro b6 w - H;refine Bf (.pointer _) Ahp U U U H at0 (by decide) ?_;rintro w H
 refine qA (Ad (CG [.pointer _,.pointer _] U (CG [.pointer _,.pointer _] U (Cc [.func (.func 77) #[] #[ptr b2,ptr b6],.func (.func 79) #[] #[ptr b2,ptr b6]] Pa WU Abk H ?_))));rintro b16 w - H;refine Aj qB (emAll D hl hm H) U ?_;rintro v w ⟨e,rfl,he⟩;clear H;obtain⟨rfl,bp,ba,bt,H9⟩:=he.resolve_right (fun h=>h.2);have H:=H9.left;refine Ac U (qA (Ad (AH F6 U H at1 U (Ae U (B7 U (Ac U (qA (A6 (Cs (v1:=(.pointer _)) (v2:=(.int _ _)) U U U U ?_)))))))));refine⟨bs,b10,b11,o10,o11,bp,ba,bt,rfl,hM1,hM2,H9.sub (fun x hx=>?_) ?_⟩
 .simp only[qat,qac,qam,or_false]at hx |-
  rcases hx with(h|h|h)|(h|h)|h <;> simp[h]
 .have h:=H9.nd;simp only[qbx,qa7,qbh,qac,qat]at h |-;simp_all
end
def blkI(n:Int):Int:=max 1 ((max n 0+480 - 1) / 480)+1
def blk(n:Nat):Nat:=max 1 ((n+479) / 480)+1
theorem Ja(n:Nat):blkI (n:Int)=(blk n:Int):=by unfold blkI blk;omega
theorem Er(n:Nat):2<=blk n:=by unfold blk;omega
theorem Pn(n:Nat):blk n<=n+2:=by unfold blk;omega
theorem Gx(n:Int)(w:World)(h:n<=9000000000000000000:=by omega):Ret prog 45 #[.int .i64 n] w fun v w'=>v=.int .i64 (blkI n)/\w=w':=by
 refine A8 (fn:=f45) func45 U [.int .i64 n] U (Ad (Ac U (qA (Ad (Ae U (Qz U U U ?_))))));refine Ay U U (BD U U ?_);refine QT U U U (show _<=(9223372036854775807:Int)by omega) (Qz U U U ?_);refine Ay U U (Ac U (qA (A6 (AG (v:=(.int _ _)) U U U ?_))));exact⟨rfl,rfl⟩
def Et(m f z at':Int)(seq:Nat):Bool:=decide (0<=f) && (decide (2<=z) && (decide (z<=m) && (decide (f<=m - z) && (decide (0<=at') && (decide (at'<z) && (decide (1<=seq) && decide (seq<=4611686018427387904)))))))
def Xu(n:Nat)(c:UInt8):Byt:=(List.range n).map fun i=>c+UInt8.ofNat (i % 7)
theorem UK(n:Nat)(c:UInt8):(Xu n c).length=n:=by simp[Xu]
structure Jr where
 frm:Nat
 size:Nat
 at':Nat
 seq:Nat
 taken:Nat
 dead:Bool
def TJ:Nat:=124
def JB(bd:Nat)(J:Jr):List Value:=[ptr bd,.int .i64 (J.frm:Int),.int .i64 (J.size:Int),.int .i64 (J.at':Int),.int .u64 (J.seq:Int),.int .i64 (J.taken:Int),.bool J.dead]
structure Jr.Ok(J:Jr):Prop where
 s1:2<=J.size
 s2:J.frm+J.size<=4096
 a:J.at'<J.size
 t:J.taken<=J.size
 q:J.seq<=9000000000000000000
def Jr.place(J:Jr)(i:Nat):Nat:=J.frm+(J.at'+i) % J.size
theorem Jr.Ok.place{J:Jr}(h:J.Ok)(i:Nat):J.place i<J.frm+J.size:=by
 have:=qbm (J.at'+i) (show 0<J.size by have:=h.s1;omega);unfold Jr.place;omega
theorem UL{w:World}{bj bd:Nat}{J:Jr}(h:w.heap[bj]?=some (Bl TJ (JB bd J)))(hJ:J.Ok)(i:Nat)(hi:i<=1000000) :
  Ret prog 109 #[ptr bj,.int .i64 (i:Int)] w fun v w'=>v=.int .i64 (J.place i:Int)/\Ext [] w w':=by
 obtain⟨w0,rfl,H⟩:=qE w;have h1:=hJ.s1;have h2:=hJ.s2;have h3:=hJ.a;have hm:=qbm (J.at'+i) (show 0<J.size by omega);refine A8 (fn:=f109) func109 U [.pointer (some ⟨bj,0,none⟩),.int .i64 (i:Int)] U ?_;refine Ad (Ac U (qA (J9 (fun x=>x=_) mixed U ?_)));refine Ha U (El U (BP Ahl U (Ig DV U (by rintro _ rfl;exact(Ctx.old0 H.drew (Aq h _))) ?_)));refine Ha U (El U (BP NH U (Ig DV U (by rintro _ rfl;exact(Ctx.old0 H.drew (Aq h _))) ?_)));refine DK U (Fk U U ?_);refine Ha U (El U (BP NG U (Ig DV U (by rintro _ rfl;exact(Ctx.old0 H.drew (Aq h _))) ?_)));refine q_rem U U U (by omega) (by omega) ?_;rw[show((J.at':Int)+(i:Int)) % (J.size:Int)=(((J.at'+i) % J.size:Nat):Int)by rw[Int.natCast_emod,Int.natCast_add]]
 refine Fk U U (EO U (Js ?_));rintro _ rfl;replace H:=H.drew;refine A6 (AG (v:=(.int _ _)) U U U ?_);exact⟨qab (Value.int .i64) (by unfold Jr.place;omega),H.ext⟩
def CY(q i:Nat)(p:Byt):Byt:=(Bq q 8++Bq i 4)++p
def Hh(q:Nat)(s:Byt):Byt:=(Bq q 8++Bq (blk s.length - 1) 4)++Bq s.length 4
theorem Nj(q i:Nat)(p:Byt):(CY q i p).length=12+p.length:=by simp[CY,Ba];omega
theorem Xw(q:Nat)(s:Byt):(Hh q s).length=16:=by simp[Hh,Ba]
theorem Xx(l:Byt)(n:Nat):Nb l n 4=l++Bq n 4:=by rw[Nb,show HP 4=true by decide];rfl
theorem Ai4(l:Byt)(n:Nat):Nb l n 8=l++Bq n 8:=by rw[Nb,show HP 8=true by decide];rfl
theorem SL{w:World}{bj bd:Nat}{J:Jr}(h:w.heap[bj]?=some (Bl TJ (JB bd J)))(hJ:J.Ok)(i:Nat)(a:Option Addr)(c n:Nat)(p:Byt)(R:Rd w a 1 B8 p)(hn:p.length=n)(hi:i<=1000000:=by omega)(hm:n<=1000000:=by decide):
  Ret prog 111 #[ptr bj,.int .i64 (i:Int),.slice a n c] w fun v w'=>Fresh w w' 5 1 v ((CY J.seq i p).map bv):=by
 subst hn;obtain⟨w0,rfl,H⟩:=qE w;have hq:=hJ.q;refine A8 (fn:=f111) func111 U [.pointer (some ⟨bj,0,none⟩),.int .i64 (i:Int),.slice a p.length c] U ?_;refine Ad (Ak U (qA (Ad (An U (A7 U (Af KY U (Bd GH U (Ctx.old0 H (Aq h _)) ?_)))))));refine Aj qB (Gt none 0 0 [] J.seq 8 w0 Rd.nil U (by omega)) U ?_;rintro v w F12;rw[Ai4,qa7]at F12;obtain⟨a12,c12,rfl,R12,hc12⟩:=Fresh.rdB F12;rw[Ba];refine Ae U (DN U Gs Hn ?_);refine Aj qB (Gt a12 c12 8 (Bq J.seq 8) i 4 w R12 (Ba _ _) (by omega)) U ?_;rintro v w F15;rw[Xx]at F15;replace F15:=Fresh.since F15 F12.ext;obtain⟨a15,n15,c15,full15,rfl,O15,hb15⟩:=F15.ex;have hx15:=F15.ext;obtain rfl:n15=12:=by have h9:=O15.llen;rw[qai,qan,Ba,Ba]at h9;omega
 replace H:=(Ctx.start w0 []).callEnt hx15 hb15 KR;refine Ak U (qA (Ad (Ah U (Ah U (DQ (L:=[]) U AX AX CJ OZ IW U (p.map bv) U U H O15 (by simp) (Ht p) (Rd.appB (R.ext0 H.ext)) ?_)))));rintro a18 c18 full18 w H O;rw[<-qay]at O;refine Ak U (qA (A6 (AG (v:=(.slice _ _ _)) U U U ?_)));exact Ctx.fresh (L:=[]) H O
theorem Ai5{w:World}{bj bd:Nat}{J:Jr}(h:w.heap[bj]?=some (Bl TJ (JB bd J)))(hJ:J.Ok)(a:Option Addr)(c n:Nat)(s:Byt)(hn:s.length=n)(hm:n<=1000000000000:=by omega):
  Ret prog 113 #[ptr bj,.slice a n c] w fun v w'=>Fresh w w' 5 1 v ((Hh J.seq s).map bv):=by
 subst hn;obtain⟨w0,rfl,H⟩:=qE w;have hq:=hJ.q;have hb2:=Er s.length;have hb3:=Pn s.length;refine A8 (fn:=f113) func113 U [.pointer (some ⟨bj,0,none⟩),.slice a s.length c] U ?_;refine Ad (Ak U (qA (Ad (An U (A7 U (Af KY U (Bd GH U (Ctx.old0 H (Aq h _)) ?_)))))));refine Aj qB (Gt none 0 0 [] J.seq 8 w0 Rd.nil U (by omega)) U ?_;rintro v w F10;rw[Ai4,qa7]at F10;obtain⟨a10,c10,rfl,R10,hc10⟩:=Fresh.rdB F10;rw[Ba];refine Ah U (AO AX U (Aj qB (Gx (s.length:Int) w) U ?_));rintro v w ⟨rfl,rfl⟩;rw[Ja];refine BD U U ?_;rw[show((blk s.length:Int) - 1)=((blk s.length - 1:Nat):Int)by omega];refine DN U Gs Hn (Aj qB (Gt a10 c10 8 (Bq J.seq 8) (blk s.length - 1) 4 _ R10 (Ba _ _) (by omega)) U ?_)
 rintro v w F16;rw[Xx]at F16;replace F16:=Fresh.since F16 F10.ext;obtain⟨a16,c16,rfl,R16,hc16⟩:=Fresh.rdB F16;rw[qan,Ba,Ba];refine Ak U (qA (Ad (Ah U (Ah U (AO AX U (DN U Gs Hn ?_))))));refine Aj qB (Gt a16 c16 12 (Bq J.seq 8++Bq (blk s.length - 1) 4) s.length 4 _ R16 (by rw[qan,Ba,Ba]) (by omega)) U ?_;rintro v w F21;rw[Xx]at F21;obtain⟨a21,n21,c21,full21,rfl,O21,hb21⟩:=F21.ex;refine Ak U (qA (A6 (AG (v:=(.slice _ _ _)) U U U ?_)));exact Fresh.since F21 F16.ext
theorem Xy{w:World}(a b:Option Addr)(c d n m:Nat)(x y:Byt)(Rx:Rd w a 1 B8 x)(Ry:Rd w b 1 B8 y)(hn:x.length=n)(hm:y.length=m) :
  Ret prog 112 #[.slice a n c,.slice b m d] w fun v w'=>v=.bool (decide (x=y))/\w=w':=by
 subst hn hm;refine A8 (fn:=f112) func112 U [.slice a x.length c,.slice b y.length d] U (Ad (Am U (qA (Ad (Ah U (Kk (l:=x) AX Hm FA U Rx ?_))))));refine Ah U (Kk (l:=y) AX Hm FA U Ry ?_);refine Ro (l:=x) (m:=y) U U U (Am U (qA (A6 (AG (v:=(.bool _)) U U U ?_))));exact⟨rfl,rfl⟩
def SM(x y:Byt):Bool:=decide (y.length<=x.length) && decide (x.take y.length=y)
theorem Ad3{w:World}(a b:Option Addr)(c d n m:Nat)(x y:Byt)(Rx:Rd w a 1 B8 x)(Ry:Rd w b 1 B8 y)(hn:x.length=n)(hm:y.length=m)(hc:n<=c) :
  Ret prog 110 #[.slice a n c,.slice b m d] w fun v w'=>v=.bool (SM x y)/\w=w':=by
 subst hn hm;refine A8 (fn:=f110) func110 U [.slice a x.length c,.slice b y.length d] U (Ad (Am U (qA (Ad (Ah U (AO AX U (Ah U (AO AX U (Ie U U (AF U ?_))))))))));refine AQ 10 U ?_ ?_
 .intro h1;replace h1:=AR h1;have hl:y.length<=x.length:=by omega
  refine Ah U (Ah U (AO AX U (Eg AX CJ U U ?_)));refine Ah U (Aj qB (Xy a b c d y.length y.length (x.take y.length) y (Rx.take _) Ry (by rw[qa0];omega) U) U ?_);rintro v w ⟨rfl,rfl⟩;refine AN U (.bool _) U (Am U (qA (A6 (AG (v:=(.bool _)) U U U ?_))));exact⟨by rw[SM,qal hl];rfl,rfl⟩
 .intro h1;replace h1:=AU h1;refine Ag U (Ag U (Ag U (Ag U (Ag U (Ag U (AM U (.bool _) U (Am U (qA (A6 (AG (v:=(.bool _)) U U U ?_))))))))));exact⟨by rw[SM,qag (show ¬y.length<=x.length by omega)];rfl,rfl⟩
def Oh(A:Dev)(J:Jr)(i:Nat)(k:UInt8)(b:Byt):Int:=Dr A (J.place i:Int) (DR k b)
def Ku(A:Dev)(J:Jr)(i:Nat)(k:UInt8)(b:Byt):Dev:=CD A (J.place i:Int) (DR k b)
theorem Abv{w:World}{bj bd:Nat}{J:Jr}{A:Dev}{F:Nat->Prop}(h:w.heap[bj]?=some (Bl TJ (JB bd J)))(hJ:J.Ok)(i:Nat)(k:UInt8)(a:Option Addr)(c n:Nat)(b:Byt)(R:Rd w a 1 B8 b)(hn:b.length=n)(hm:n<=505)(hlt:∀x,F x->x<w.heap.size)(hFj:¬F bj){mx:Nat}(hfew:Few A mx)(DA:DevAt w bd A F)(hi:i<=1000000:=by omega)(hk:k.toNat≠0:=by decide)(hmx:mx<=1000000000000:=by omega):
  Ret prog 118 #[ptr bj,.int .i64 (i:Int),bv k,.slice a n c] w fun v w'=>v=.int .i64 (Oh A J i k b)/\DevAt w' bd (Ku A J i k b) (grow F w w')/\Turn F w w':=by
 subst hn;obtain⟨w0,rfl⟩:=qD w
 have hse:GI k b=0:=by
  rw[GI,qag hk,qag (by omega)];rfl
 have h5:(DR k b).length=512:=FH hm;refine A8 (fn:=f118) func118 U [.pointer (some ⟨bj,0,none⟩),.int .i64 (i:Int),bv k,.slice a b.length c] U ?_;refine Ad (Ac U (qA (Ad (DY U (bv k) U ?_))));refine Ah U (Aj qB (VP k a c _ _ _ R U) U ?_);rintro v w P14;rw[Lg,hse]at P14;obtain⟨s14,rfl,B14⟩:∃s,v=.tuple #[s,.int .i64 0]/\Bytes _ w s (DR k b):=(P14.elim (fun h=>absurd rfl h.1) fun h=>h.2);obtain⟨a14,c14,rfl,R14,hc14,hn14⟩:=B14.ex;have hx:=B14.ext;have DA1:=DA.keep0 hx;rw[h5];have hj1:w.heap[bj]?=some (Bl TJ (JB bd J)):=by rw[hx.block bj (Al h) (by simp)];exact h
 refine AW U (Ai U U (Ai U U (Ak U (Ac U (qA (Ar (Ad (Ae U (Be U U ?_)))))))));refine qA (Bz U (Ap (Aa (BV [([0,1,2,3,4,5,7],6),([],8),([],9)] (fun z=>z.heap[bj]?=some (Bl TJ (JB bd J))) [] mixed (hj1) ?_))));refine AD U U (C1 U (Bm U (AC NF U (BC Dm U (fun _ hx=>Aq hx (0+0)) ?_))));refine C1 U (B0 U (B9 U (AV ?_)))
 skip
 refine Aj qB (UL (show(World.drew w).heap[bj]?=_ from hj1) hJ i hi) U ?_;rintro v w8 ⟨rfl,hx8⟩;have DA2:=(DA1.keep0 (Ext.drew [] w)).keep0 hx8;have R15:=(R14.ext0 (Ext.drew [] w)).ext0 hx8;have hj8:w8.heap[bj]?=some (Bl TJ (JB bd J)):=by rw[hx8.block bj (Al hj1) (by simp)];exact hj1
 refine Ab (Bb (hj8) (AD U U ?_));refine AV (Aj qB (Pf (J.place i:Int) a14 c14 512 (DR k b) R15 h5 (.inr fun h=>by have:=hlt _ h;omega) hfew (hmx:=hmx) DA2) U ?_);rintro v w9 ⟨rfl,DA3,hT⟩;have hj9:w9.heap[bj]?=some (Bl TJ (JB bd J)):=by obtain⟨S,hS,hx9⟩:=hT;rw[hx9.block bj (Al hj8) (fun h=>hFj (hS _ h))];exact hj8
 refine Ab (Bb (hj9) (AD U U ?_));refine AV (Ac U (Ab (Bb (hj9) (B4 (A6 (AG (v:=(.int _ _)) U U U ?_))))));have hxx:=(hx.trans (Ext.drew [] w)).trans hx8;exact⟨rfl,DA3.mono (Xc hxx.size),Turn.trans (.of0 hxx) hT fun x h => .inl h⟩
abbrev tpC(root:Int)(p q:Nat):List Value:=[.int .i64 root,.int .i64 (p:Int),.int .u64 (q:Int)]
def tpB(root:Int)(p q:Nat):Byt:=Bq (root+1).toNat 4++(Bq p 4++Bq q 8)
theorem DZ(root:Int)(p q:Nat):(tpB root p q).length=16:=by simp[tpB,Ba]
theorem Abw(root:Int)(p q:Nat)(w:World)(hr : -1<=root/\root<=4294967294)(hp:p<4294967296)(hq:q<18446744073709551616) :
  Ret prog 40 #[.agg (tpC root p q).toArray] w fun v w'=>Fresh w w' 5 1 v ((tpB root p q).map bv):=by
 obtain⟨w0,rfl⟩:=qD w;obtain⟨n,hn⟩:∃n:Nat,root+1=n:=⟨(root+1).toNat,by omega⟩;have H:=Ctx.start w0 [];refine A8 (fn:=f40) func40 U [.agg (tpC root p q).toArray] U (Ad (Cu (tpC root p q) (.agg _) U U H ?_));rintro b1 w - H;refine Ak U (qA (Ad (Af Abh U (AH DV U H at0 U (Ay U U ?_)))));rw[hn];refine DN U Gs Hn (Aj qB (Gt none 0 0 [] n 4 _ Rd.nil U (by omega)) U ?_);rintro v w F;rw[Xx,qa7]at F;obtain⟨a8,n8,c8,f8,rfl,O8,h8⟩:=F.ex;obtain rfl:n8=4:=(by have:=O8.llen;rw[qai,Ba]at this;omega);replace H:=H.callEnt F.ext h8 KR;refine Ak U (qA (Ad (Ah U (Af NJ U (AH DV U H at0 U (DN U Gs Hn ?_))))))
 refine Aj qB (Gt a8 c8 4 (Bq n 4) p 4 _ (OS.rdB O8 fun x hx=>H.blk x (qax _ hx)) (Ba _ _) (by omega)) U ?_;rintro v w F2;rw[Xx]at F2;obtain⟨a13,n13,c13,f13,rfl,O13,h13⟩:=F2.ex;obtain rfl:n13=8:=(by have:=O13.llen;rw[qai,qan,Ba,Ba]at this;omega);replace H:=H.callEnt F2.ext h13 KR;refine Ak U (qA (Ad (Ah U (Af Kp U (AH GH U H at0 U (Aj qB (Gt a13 c13 8 (Bq n 4++Bq p 4) q 8 _ (OS.rdB O13 fun x hx=>H.blk x (qax _ hx)) (by rw[qan,Ba,Ba]) hq) U ?_))))));rintro v w F3;rw[Ai4,qa1]at F3;have hx0:=H.ext;obtain⟨a17,n17,c17,f17,rfl,O17,h17⟩:=F3.ex;refine Ak U (qA (A6 (AG (v:=(.slice _ _ _)) U U U ?_)));have hb:tpB root p q=Bq n 4++(Bq p 4++Bq q 8):=by unfold tpB;rw[hn];rfl
 rw[hb];exact Fresh.since F3 hx0
def tpR(b:Byt):List Value:=if b.length=16 then tpC ((numN (b.take 4):Int) - 1) (numN ((b.drop 4).take 4)) (numN ((b.drop 8).take 8))else tpC 0 0 0
theorem ZA{b:Byt}(h:b.length=16)(p k:Nat)(hk:k=4\/k=8)(hp:p+k<=16:=by decide):Gh b (p:Int) (k:Int)=.tuple #[.int .u64 (numN ((b.drop p).take k):Int),.int .i64 ((p:Int)+(k:Int)),.int .i64 0]:=by
 have:Di b (p:Int) (k:Int)=0:=by
  unfold Di;rw[qal (show(0:Int)<=(p:Int)by omega),qal (show(p:Int)<=(b.length:Int)by omega),qal (show(k:Int)<=(b.length:Int) - (p:Int)by omega)]
  rcases hk with rfl|rfl <;> rfl
 unfold Gh;rw[this];rfl
theorem Abx{b:Byt}(k:Nat)(l:Byt)(hl:l=b.take k)(hk:k<=4:=by decide):numN l<4294967296:=by
 subst hl;have h1:=Kr (b.take k);have h2:(b.take k).length<=4:=by rw[qa0];omega
 have h3:256 ^ (b.take k).length<=256 ^ 4:=qc2 (by omega) h2;have h4:(256:Nat) ^ 4=4294967296:=by decide
 omega
theorem Xz(a:Option Addr)(c:Nat)(b:Byt)(w:World)(R:Rd w a 1 B8 b)(hc:b.length<=c)(hm:b.length<=100000:=by omega):
  Ret prog 33 #[.slice a b.length c] w fun v w'=>v=.tuple #[.agg (tpR b).toArray,.bool (decide (b.length=16))]/\Ext [] w w':=by
 obtain⟨w0,rfl,H⟩:=qE w;refine A8 (fn:=Tryz.f33) func33 U [.slice a b.length c] U (Ad (Bi Si H ?_));rintro b2 w - H;refine Am U (qA (Ar (Ad (Ah U (AO AX U (Be U U (qA (Av _ U ?_ ?_))))))))
 .intro h1;replace h1:=Bv h1;have h1:¬b.length=16:=fun h=>h1 (by omega);refine Ad (BO Aa6 NL U H at0 U (Bo NL U U U (by simp[Bh]) H at0 U ?_));rintro w H;refine Am U (qA (A6 (Ao (Du U U U Aa6 NL H at0 U (show _=(.bool _)from rfl) ?_))));exact⟨by rw[tpR,if_neg h1,qag h1];rfl,H.ext⟩
 .intro h1;replace h1:=Bw h1;have h1:b.length=16:=by omega
  have n1:=Abx (b:=b) 4 _ rfl;have n2:=Abx (b:=b.drop 4) 4 _ rfl;refine Ap (Aa (Ad (Ah U (Aj qB (He a c _ b ((0:Nat):Int) ((4:Nat):Int) _ (R.ext0 H.ext) U hc) U ?_))));rintro v w ⟨rfl,hx19⟩;replace H:=H.call hx19;rw[ZA h1 0 4 (.inl rfl),List.drop_zero];refine AW U (Ai U U (Ai U U (Ai U U (Ac U (Ac U (Ac U (qA (Ad (Ah U ?_)))))))));refine Aj qB (He a c _ b ((4:Nat):Int) ((4:Nat):Int) _ (R.ext0 H.ext) U hc) U ?_;rintro v w ⟨rfl,hx25⟩;replace H:=H.call hx25;rw[ZA h1 4 4 (.inl rfl)];refine AW U (Ai U U (Ai U U (Ai U U (Ac U (Ac U (Ac U (qA (Ad (Ah U ?_)))))))));refine Aj qB (He a c _ b ((8:Nat):Int) ((8:Nat):Int) _ (R.ext0 H.ext) U hc) U ?_;rintro v w ⟨rfl,hx31⟩;replace H:=H.call hx31;rw[ZA h1 8 8 (.inr rfl)]
  refine AW U (Ai U U (Ai U U (Ai U U (Ac U (Ac U (Ac U (qA (Ad (Ae U ?_)))))))));refine EX U Hn Gs (BD U U ?_);refine Ae U (EX U Hn Gs ?_);refine Ae U (B5 (tpC ((numN (b.take 4):Int) - 1) (numN ((b.drop 4).take 4)) (numN ((b.drop 8).take 8))) Ahn Si ?_);refine Bo NL U U U (by simp[Bh]) H at0 U ?_;rintro w H;refine Am U (qA (A6 (Du U U U Aa6 NL H at0 U (show _=(.bool _)from rfl) ?_)));exact⟨by rw[tpR,if_pos h1,qal h1],H.ext⟩
theorem Ad4{b:Byt}{i:Bool}{l:List It}(h:Es b=some (i,l)):l≠[]:=by
 unfold Es at h
 split at h
 .unfold Xo at h
  split at h
  .split at h
   .rename_i h5
    injection h with h;injection h with h6 h7
    rw[<-h7];exact h5.2
   .cases h
  .cases h
 .cases h
theorem SO{i:Bool}{b:Byt}:∀{n at':Nat} {r:List It × Nat},Fv i b n at'=some r->r.1.length=n
 |0,at',r,h=>by cases h;rfl
 |n+1,at',r,h=>by
  cases h1:Ni i b at' with
  |none=>rw[Qb h1]at h;cases h
  |some x =>
   obtain⟨x,m⟩:=x;rw[Qc h1]at h
   cases h2:Fv i b n m with
   |none=>rw[h2]at h;cases h
   |some r2 =>
    rw[h2]at h;cases h;show r2.1.length+1=n+1;rw[SO h2]
theorem ZB{b:Byt}{i:Bool}{l:List It}(h:Es b=some (i,l)):l.length<=65535:=by
 unfold Es at h
 split at h
 .unfold Xo at h
  split at h
  .rename_i r hr
   split at h
   .injection h with h;injection h with h6 h7
    have h8:=SO hr;have h9:=Kr ((CS b).take 2);have h10:256 ^ ((CS b).take 2).length<=256 ^ 2:=qc2 (by omega) (by rw[qa0];omega);rw[<-h7,h8];omega
   .cases h
  .cases h
 .cases h
theorem FL{A:Dev}{fr sz:Nat}{page depth:Int}{i:Bool}{l:List It}(h:(Dp A fr sz page depth).2=some (i,l)):(Dp A fr sz page depth).1=0/\l≠[]/\depth<=16/\0<=page/\page<(sz:Int)/\l.length<=65535:=by
 unfold Dp at h |-
 split at h
 .cases h
 .rename_i h1
  rw[if_neg h1]
  split at h
  .rename_i h2
   rw[if_pos h2]
   split at h
   .cases h
   .rename_i n hn
    injection h with h
    subst h;exact⟨rfl,Ad4 hn,by omega,by omega,by omega,ZB hn⟩
  .cases h
theorem Jb{A:Dev}{fr sz:Nat}{page depth:Int}(h:(Dp A fr sz page depth).2=none):(Dp A fr sz page depth).1≠0:=by
 unfold Dp at h |-
 split
 .decide
 .rename_i h1
  rw[if_neg h1]at h
  split
  .rename_i h2
   rw[if_pos h2]at h
   split
   .decide
   .rename_i n hn
    rw[hn]at h;cases h
  .rename_i h2;exact h2
theorem Po{l:List It}(h:l≠[])(key:Byt):Cf l key<l.length:=by
 unfold Cf
 have h1:=qfg (l:=l.tail) (fun x:It=>decide (DU x.key key<=0)) |>.length_le
 have h2:=qbv.2 h;rw[qe1]at h1;omega
theorem ZC(L:List It)(key:Byt):∀(n i j:Nat),j - i<=n->i<=j->i<=bsN L key i j/\bsN L key i j<=j
 |0,i,j,h,hij=>by rw[NX];omega
 |n+1,i,j,h,hij=>by
  by_cases hlt:i<j
  .rw[Z7 hlt]
   split
   .have:=ZC L key n ((i+j) / 2+1) j (by omega) (by omega);omega
   .have:=ZC L key n i ((i+j) / 2) (by omega) (by omega);omega
  .rw[NX];omega
theorem Pp(L:List It)(key:Byt):CK L key<=L.length:=(ZC L key _ 0 L.length (qae _) (qak _)).2
theorem Nk{L:List It}{key:Byt}(h:Fw L key=true):∃x,L[CK L key]?=some x/\x.key=key:=by
 unfold Fw at h
 cases hx:L[CK L key]? with
 |none=>rw[hx]at h;cases h
 |some x=>rw[hx]at h;exact⟨x,rfl,NT (qb6 h)⟩
def Ij(sz root:Int):Int:=if root < -1\/sz<=root then 1 else 0
def Dg(k v:Nat):Bool:=decide (1<=k) && (decide (k<=32) && decide (v<=128))
def X0(A:Dev)(fr sz:Nat)(key:Byt):Nat->Int->Int->Int × Option Byt
 |0,_,_=>(9,none)
 |n+1,page,depth =>
  if page = -1 then(0,none)else match(Dp A fr sz page depth).2 with
  |none=>((Dp A fr sz page depth).1,none)
  |some (true,l)=>X0 A fr sz key n (((l[Cf l key]?.map (·.page)).getD 0:Nat):Int) (depth+1)
  |some (false,l)=>if Fw l key=true then(0,some ((l[CK l key]?.map (·.val)).getD []))else(0,none)
def Oi(A:Dev)(fr sz:Nat)(root:Int)(key:Byt):Int × Option Byt :=
 if Ij sz root≠0 then(1,none)else if Dg key.length 0=true then X0 A fr sz key 18 root 0 else(1,none)
theorem Pq(a b:Option Addr)(n m c d:Nat)(w:World):Ret prog 126 #[.slice a n c,.slice b m d] w fun v w'=>v=.bool (Dg n m)/\w=w':=by
 obtain⟨w0,rfl⟩:=qD w;refine A8 (fn:=f126) func126 U [.slice a n c,.slice b m d] U (Ad (Am U (qA (Ad (Ah U (AO AX U (Ie U U (AF U (AQ 8 U ?_ ?_)))))))))
 .intro h1;replace h1:=AR h1;refine Ah U (AO AX U (MU U U (AN U (.bool _) U (AF U (AQ 13 U ?_ ?_)))))
  .intro h2;replace h2:=AR h2;refine Ah U (AO AX U (MU U U (AN U (.bool _) U (Am U (qA (A6 (AG (v:=(.bool _)) U U U ?_)))))));exact⟨qab Value.bool (by unfold Dg;rw[qar];simp;omega),rfl⟩
  .intro h3;replace h3:=AU h3;refine Ag U (Ag U (Ag U (AM U (.bool _) U (Am U (qA (A6 (AG (v:=(.bool _)) U U U ?_)))))));exact⟨qab Value.bool (by unfold Dg;rw[qar];simp;omega),rfl⟩
 .intro h4;replace h4:=AU h4;refine Ag U (Ag U (Ag U (AM U (.bool _) U (AF U (Ag U (Ag U (Ag U (AM U (.bool _) U (Am U ?_)))))))));refine qA (A6 (AG (v:=(.bool _)) U U U ?_));exact⟨qab Value.bool (by unfold Dg;rw[qar];simp;omega),rfl⟩
section
variable {w:World}{bt bd bp ba fr:Nat}{A:Dev}{P:List Nat}{F:Mut}{L:List (Nat × Obj)}
theorem Q8(T:Tx w bt bd bp ba fr A P F L)(root:Int):Ret prog 123 #[ptr bt,.int .i64 root] w fun v w'=>v=.int .i64 (Ij P.length root)/\w=w':=by
 obtain⟨w0,rfl⟩:=qD w;refine A8 (fn:=f123) func123 U [.pointer (some ⟨bt,0,none⟩),.int .i64 root] U ?_;refine Ad (Ac U (qA (Ar (AB (Ad (An U (BU Anx U ?_)))))));refine Am U (qA (Bz U (Ad (BG (α:=Unit) 1048320 (fun _=>[(8,.bool (decide (root < -1) || decide ((P.length:Int)<=root)))]) (fun _ w'=>w0=w') U ?_ ?_))))
 .refine Ae U (Bj U U (AF U (AQ 11 U ?_ ?_)))
  .intro h1;replace h1:=AR h1;refine Ag U (Ag U (Ag U (Ag U (Ag U (Ag U (Ag U (AN U (.bool _) U (Am U (Ab ?_)))))))));exact⟨rfl,(),rfl,⟨qab Value.bool (by rw[qar];simp;omega),trivial⟩,rfl⟩
  .intro h2;replace h2:=AU h2;refine Ae U (An U (A7 U (Af Lc U (Bd K2 U (Aq T.tr (0+1)) ?_))));refine Aj qB (Od T.pg) U ?_;rintro v w ⟨rfl,rfl⟩;refine Ie U U (AM U (.bool _) U (Am U (Ab ?_)));exact⟨rfl,(),rfl,⟨qab Value.bool (by rw[qar];simp;omega),trivial⟩,rfl⟩
 rintro - j8 w rfl;refine Av _ U ?_ ?_
 .intro h1;refine Ad (Ac U (qA (A6 (AK (Ao (AG (v:=(.int _ _)) U U U ?_))))));exact⟨by rw[Ij,if_pos (by simpa using h1)],rfl⟩
 .intro h1;have hn1:¬(root < -1\/(P.length:Int)<=root):=(by intro h5;have h6:(decide (root < -1) || decide ((P.length:Int)<=root))=true:=(by simpa using h5);rw[h1]at h6;cases h6);refine Ap (AE (Aa (Ad (Ac U (qA (A6 (AG (v:=(.int _ _)) U U U ?_)))))));exact⟨by rw[Ij,if_neg hn1],rfl⟩
theorem Wa{A:Dev}{fr sz:Nat}{key:Byt}{n:Nat}{page depth:Int}:X0 A fr sz key (n+1) page depth=if page = -1 then(0,none)else match(Dp A fr sz page depth).2 with
  |none=>((Dp A fr sz page depth).1,none)
  |some (true,l)=>X0 A fr sz key n (((l[Cf l key]?.map (·.page)).getD 0:Nat):Int) (depth+1)
  |some (false,l)=>if Fw l key=true then(0,some ((l[CK l key]?.map (·.val)).getD []))else(0,none):=by rw[X0]
theorem Aby(T:Tx w bt bd bp ba fr A P F L)(hfr:fr<=5000)(root:Int)(hr : -9223372036854775808<=root/\root<=9223372036854775807)(ka:Option Addr)(kc kn:Nat)(key:Byt)(Rk:Rd w ka 1 B8 key)(hk:key.length=kn){mx:Nat}(hfew:Few A mx)(hmx:mx<=1000000000:=by omega):
  Ret prog 148 #[ptr bt,.int .i64 root,.slice ka kn kc] w fun v w'=>∃va vc u,v=.tuple #[.slice va (List.length u) vc,.bool (Oi A fr P.length root key).2.isSome,.int .i64 (Oi A fr P.length root key).1]/\Ext [] w w'/\Rdx w' (Old w) va u/\u.length<=vc/\u=(Oi A fr P.length root key).2.getD []:=by
 subst hk;obtain⟨w0,rfl⟩:=qD w;obtain⟨rg,hrg⟩:=qD (Oi A fr P.length root key);rw[<-hrg];unfold Oi at hrg;refine A8 (fn:=f148) func148 U [.pointer (some ⟨bt,0,none⟩),.int .i64 root,.slice ka key.length kc] U ?_;refine Ad (Ak U (Am U (Ac U (qA (Ar (Ad (An U (Ae U (Aj qB (Q8 T root) U ?_)))))))));rintro v w ⟨rfl,rfl⟩;refine Ac U (qA (Ad (Ae U (Be U U (qA (Av _ U ?_ ?_))))))
 .intro h1;replace h1:=Bv h1;rw[if_pos h1]at hrg;have he:Ij P.length root=1:=by unfold Ij at h1 |-;split <;> simp_all
  refine Ad (Ae U (Ak U (Am U (Ac U (qA (A6 (Ao (CX (v1:=(.slice _ _ _)) (v2:=(.bool _)) (v3:=(.int _ _)) U U U U U ?_))))))));exact⟨none,0,[],by rw[hrg,he];rfl,.refl _ _,Rdx.nil,qae _,by rw[hrg];rfl⟩
 .intro h1;replace h1:=Bw h1;rw[if_neg (by simpa using h1)]at hrg;refine Ap (Aa (Ar (Ad (Ah U (Aj qB (Pq ka none _ 0 kc 0 _) U ?_)))));rintro v w ⟨rfl,rfl⟩;refine Cl U (qA (Av _ U ?_ ?_))
  .intro h2;replace h2:=C8 h2;rw[if_neg (by simpa using h2)]at hrg;refine Ad (Ak U (Am U (Ac U (qA (A6 (Ao (CX (v1:=(.slice _ _ _)) (v2:=(.bool _)) (v3:=(.int _ _)) U U U U U ?_)))))));exact⟨none,0,[],by rw[hrg];rfl,.refl _ _,Rdx.nil,qae _,by rw[hrg];rfl⟩
  .intro h2;replace h2:=CA h2;rw[if_pos (by simpa using h2)]at hrg;refine Ap (Aa (Ar (Ad (Ae U (Ac U (Ac U (qA (AB (B6 73786976294771162560 (α:=Int × Nat) (fun s=>[(10,.int .i64 s.1),(11,.int .i64 (s.2:Int))]) (fun s w'=>Ext [] w0 w'/\s.2<=17/\(-9223372036854775808<=s.1/\s.1<=9223372036854775807)/\X0 A fr P.length key (18 - s.2) s.1 (s.2:Int)=rg) (fun s=>18 - s.2) (root,0) U ?_ ?_ ?_)))))))))
   .exact⟨rfl,rfl,trivial⟩
   .exact⟨.refl _ _,qak _,hr,hrg.symm⟩
   .rintro⟨page,d⟩ j w ⟨hx,hd,hpg,hg⟩;dsimp only at hx hd hpg hg;dsimp only;rw[show 18 - d=(17 - d)+1 by omega,Wa]at hg;refine Ar (Ad (Ae U (Be U U (qA (Av _ U ?_ ?_)))))
    .intro h3;replace h3:=Bv h3;rw[if_neg (by simpa using h3)]at hg;have Tw:=T.call hx;refine Ap (Aa (Ar (AB (Ad (An U (Ae U (Ae U (Aj qB (SK Tw hfr page (d:Int) hpg hfew hmx) U ?_))))))));rintro v w2 ⟨inner,aa,nn,cc,rfl,hx34,hits⟩;have H:=Ctx.start w2 [];refine AW U (Ai U U (Ai U U (Bi Co H ?_)));rintro b12 w - H;refine Bo Bg U U U (by simp[Bh]) H at0 U ?_;rintro w H;refine Ac U (qA (Ar (Ad (Ae U (Be U U (qA (Av _ U ?_ ?_)))))))
     .intro h4;replace h4:=Bv h4
      have hnone:(Dp A fr P.length page (d:Int)).2=none:=by
       cases h5:(Dp A fr P.length page (d:Int)).2 with
       |none=>rfl
       |some r=>obtain⟨i,l⟩:=r;exact absurd (FL h5).1 (by simpa using h4)
      rw[hnone]at hg;dsimp only at hg;refine Ad (Ae U (Ak U (Am U (Ac U (qA (A6 (Ao (AK (Ao (Ao (AK (Ao (CX (v1:=(.slice _ _ _)) (v2:=(.bool _)) (v3:=(.int _ _)) U U U U U ?_)))))))))))));exact⟨none,0,[],by rw[<-hg];rfl,hx.trans (hx34.trans H.ext),Rdx.nil,qae _,by rw[<-hg];rfl⟩
     .intro h4;replace h4:=Bw h4
      obtain⟨⟨i,l⟩,hsome⟩:∃r,(Dp A fr P.length page (d:Int)).2=some r:=by
       cases h5:(Dp A fr P.length page (d:Int)).2 with
       |none=>exact absurd (by simpa using h4) (Jb h5)
       |some r=>exact⟨r,rfl⟩
      obtain⟨-,hne,hd16,-,-,hll⟩:=FL hsome;obtain⟨rfl,I,hb⟩:=hits i l hsome;rw[hsome]at hg;have hxw:=hx.trans hx34;have hnum:=I.num;refine Ap (Aa (Ar (Ad (Af Dy U (AH Ge U H at0 U (qA (Av _ U ?_ ?_)))))))
      .intro h5;subst h5;dsimp only at hg;have hb12:=H.get at0;have hx12:=H.ext;obtain⟨wr,rfl⟩:=qD w;have hkeep:∀{z:World},Ext [] wr z->z.heap[b12]?=some (Bl 183 [.bool true,.slice aa nn cc]):=fun{z} h=>by rw[h.block b12 (Al hb12) (by simp)];exact hb12
       have Ir:=I.call hx12;obtain⟨ms,R,-,hl,hok⟩:=Ir.ex;have hml:ms.length=nn:=by rw[hnum,<-hl,qai]
       have hbl:=Po hne key;obtain⟨x,hx1⟩:=AP (l:=ms) (i:=Cf l key);have hxL:=Im.at hl hx1;have hxb:=hb x.it (qad hxL);rw[hxL]at hg;simp only[qbd,qdr]at hg;have hRR:∀{z:World},Ext [] wr z->Rd z aa 3 Im.enc ms:=fun{z} h=>R.ext0 h;have hx0r:Ext [] w0 wr:=hxw.trans hx12;refine BV [([0,1,2,3,4],5),([6,7,8],9)] (fun z=>Ext [] wr z) [] mixed (Ext.drew [] wr) (AD U U ?_);refine AC Br U (BC BT U (fun _ hx=>Aq (hkeep hx) (0+1)) ?_);refine AC Br U (BC BT U (fun _ hx=>Aq (hkeep hx) (0+1)) ?_);refine B9 U (AV ?_)
       skip
       refine Aj qB (Xp (Ir.call (Ext.drew [] wr)) ka kc _ key (Rk.ext0 (hx0r.trans (Ext.drew [] wr))) U) U ?_;rintro v w5 ⟨rfl,rfl⟩;refine Ab (Bb ((Ext.drew [] wr)) (AD U U ?_));refine BX R Bu Bn U U (AC Gf U (BC DV U (fun _ hx=>(hRR hx).fld hx1 rfl (j:=2) rfl) ?_));refine AV (Ac U (Ab (Bb ((Ext.drew [] wr)) (B4 (B2 (Aw (AZ (Aa (Au (Ae U (Ay U U ?_)))))))))));refine Ac U (qA ?_);exact⟨(((x.it.page:Nat):Int),d+1),rfl,⟨rfl,rfl,trivial⟩,⟨hx0r.trans (Ext.drew [] wr),by dsimp only;omega,by dsimp only;omega,by dsimp only;rw[show 18 - (d+1)=17 - d by omega];exact hg⟩,by dsimp only;omega⟩
      .intro h5;subst h5;dsimp only at hg;have hx12:=H.ext;have Ir:=I.call hx12;obtain⟨ms,R,-,hl,hok⟩:=Ir.ex;have hml:ms.length=nn:=by rw[hnum,<-hl,qai]
       refine Ap (Aa (Ad (Af Br U (AH BT U H at0 U (Ah U (Aj qB (SC Ir ka kc _ key (Rk.ext0 (hxw.trans hx12)) U) U ?_))))));rintro v w5 ⟨rfl,hx55⟩;replace H:=H.call hx55;refine AW U (Ai U U (Ai U U (Ac U (Am U (qA (Ar (Ad (AF U (Cl U ?_)))))))));refine qA (Av _ U ?_ ?_)
       .intro h6;replace h6:=C8 h6;rw[if_neg (by simpa using h6)]at hg;refine Ad (Ak U (Am U (Ac U (qA (A6 (Ao (AK (Ao (Ao (AK (Ao (CX (v1:=(.slice _ _ _)) (v2:=(.bool _)) (v3:=(.int _ _)) U U U U U ?_))))))))))));exact⟨none,0,[],by rw[<-hg];rfl,hxw.trans H.ext,Rdx.nil,qae _,by rw[<-hg];rfl⟩
       .intro h6;replace h6:=CA h6;have h6':Fw l key=true:=by simpa using h6
        rw[if_pos h6']at hg;obtain⟨y,hy,-⟩:=Nk h6';have hpl:=(qap.1 hy).1;obtain⟨x,hx1⟩:=AP (l:=ms) (i:=CK l key);have hxL:=Im.at hl hx1;rw[hxL]at hg;simp only[qbd,qdr]at hg;have hxo:=(hok x (qad hx1)).call hx55;refine Ap (Aa (Ad (Af Br U (AH BT U H at0 U (Ae U (AY R Bu Bn U U ?_))))));refine Af Ld U (Bd B1 U ((R.ext0 hx55).fld hx1 U (j:=1) U) ?_);refine Ak U (Am U (Ac U (qA (A6 (AK (Ao (Ao (AK (Ao (CX (v1:=(.slice _ _ _)) (v2:=(.bool _)) (v3:=(.int _ _)) U U U U U ?_))))))))));refine⟨x.va,x.vc,x.it.val,by rw[<-hg];rfl,hxw.trans H.ext,hxo.v.weak (Old.mono hx),hxo.vc,by rw[<-hg];rfl⟩
    .intro h3;replace h3:=Bw h3;have h3':page = -1:=by simpa using h3
     rw[if_pos h3']at hg;refine B2 (Aw (Aw (AZ (Aa (Ad (Ak U (Am U (Ac U (qA (A6 (CX (v1:=(.slice _ _ _)) (v2:=(.bool _)) (v3:=(.int _ _)) U U U U U ?_)))))))))));exact⟨none,0,[],by rw[<-hg];rfl,hx,Rdx.nil,qae _,by rw[<-hg];rfl⟩
end
def KA(inner:Bool)(half:Nat):List It->Nat->Nat
 | [],_=>0
 |x::l,sum=>if sum<half then KA inner half l (sum+CM inner x)+1 else 0
def Gj(inner:Bool)(L:List It):Nat:=KA inner (Bc inner L / 2) L 0
def DM(inner:Bool)(L:List It):List (List It):=if Bc inner L<=503 then[L]else[L.take (Gj inner L),L.drop (Gj inner L)]
abbrev SN:=Option Addr × List It × Nat
def Ln(inner:Bool)(x:SN):List Value:=[.bool inner,.slice x.1 x.2.1.length x.2.2]
structure Nds(w:World)(M:Mut)(inner:Bool)(a:Option Addr)(n c:Nat)(Ls:List (List It)):Prop where
 ex:∃ms:List SN,Rd w a 2 (Ln inner) ms/\(ms=[]\/¬M (adr a).block)/\ms.map (fun x=>x.2.1)=Ls/\∀m∈ms,Its w M m.1 m.2.1.length m.2.2 m.2.1
 num:n=Ls.length
theorem Nds.turn{w w':World}{M M':Mut}{inner:Bool}{a:Option Addr}{n c:Nat}{Ls:List (List It)}(h:Nds w M inner a n c Ls)(t:Grown M M' w w'):Nds w' M' inner a n c Ls:=by
 obtain⟨ms,R,hs,hl,hm⟩:=h.ex;refine⟨⟨ms,?_,?_,hl,fun m hx=>(hm m hx).turn t⟩,h.num⟩
 .rcases hs with rfl|hs
  .exact Rd.nil
  .obtain⟨⟨S,hS,hx⟩,_⟩:=t;exact R.ext hx fun h=>hs (hS _ h)
 .rcases hs with rfl|hs
  .exact .inl U
  .rcases Pi R (fun x _=>rfl)with h0|h0
   .exact .inl h0
   .exact .inr fun h5=>(t.2 _ h5).elim hs fun h6=>by omega
theorem MN(inner:Bool)(L:List It)(k:Nat):Bc inner (L.take k)<=Bc inner L:=by
 have h:=BB inner (L.take k) (L.drop k);rw[qbl]at h;omega
theorem Ad5{w:World}{M:Mut}(hM:∀x,M x->x<w.heap.size)(inner:Bool){a:Option Addr}{n c:Nat}{L:List It}(I:Its w M a n c L)(hsz:∀x∈L,x.key.length<=65535/\x.val.length<=65535)(hm:n<=1000000:=by omega):
  Ret prog 210 #[.agg #[.bool inner,.slice a n c]] w fun v w'=>∃a' n' c',v=.slice a' n' c'/\Nds w' M inner a' n' c' (DM inner L)/\Ext [] w w':=by
 obtain⟨w0,rfl,H⟩:=qE w;obtain⟨ms,R,-,hl,hok⟩:=I.ex;have hnum:=I.num;have hcap:=I.le;have hml:ms.length=n:=by rw[hnum,<-hl,qai]
 have htl:=Lm (inner:=inner) hsz;refine A8 (fn:=f210) func210 U [.agg #[.bool inner,.slice a n c]] U (Ad (Cu [.bool inner,.slice a n c] (.agg _) U U H ?_));rintro b1 w - H;refine Ak U (qA (Ar (Ad (BO BQ Bg U H at0 U (Aj qB (SH inner (I.call H.ext) hm hsz) U ?_)))));rintro v w ⟨rfl,hx7⟩;replace H:=H.call hx7;refine MU U U (qA (Av _ U ?_ ?_))
 .intro h1;replace h1:=AR h1;have hh:DM inner L=[L]:=by rw[DM,if_pos (by omega)]
  have hxb:=H.ext;refine Ad (BO BQ Bg U H at0 U (BI _ (.agg _) ER Bg Co U U U U H ?_));rintro b10 w - H;refine Ak U (qA (A6 (Ao (AG (v:=(.slice _ _ _)) U U U ?_))));refine⟨some ⟨b10,0,none⟩,1,1,rfl,⟨⟨[(a,L,c)],Rd.of_bl (r:=[]) (H.get at0) ?_ (fun _ _=>rfl),.inr fun hq=>?_,by rw[hh];rfl,fun m hm=>?_⟩,by rw[hh];rfl⟩,H.ext⟩
  .rw[qb0,qa3,Ln,<-hnum]
  .have:=hM _ hq;have h5:=(H.own _ (qaf ..)).elim (fun h=>by cases h) id;dsimp only[adr]at this h5;omega
  .rw[qaa.1 hm];have:=I.call H.ext;rw[hnum]at this;exact this
 .intro h1;replace h1:=AU h1;have hh:DM inner L=[L.take (Gj inner L),L.drop (Gj inner L)]:=by rw[DM,if_neg (by omega)]
  refine Ap (Aa (Ad (BO BQ Bg U H at0 U (Aj qB (SH inner (I.call H.ext) hm hsz) U ?_))));rintro v w ⟨rfl,hx12⟩;replace H:=H.call hx12;refine QT U U U (show _<=(9223372036854775807:Int)by omega) ?_;rw[show(Bc inner L:Int) / 2=((Bc inner L / 2:Nat):Int)by omega];refine Ac U (Ac U (Ac U (qA (Ar (AB ?_)))));obtain⟨wb,rfl⟩:=qD w;have hb1:=H.get at0;have hxb:=H.ext;have hnode:∀{z:World},Ext [] wb z->z.heap[b1]?=some (Bl 183 [.bool inner,.slice a n c]):=fun{z} h=>by rw[h.block b1 (Al hb1) (by simp)];exact hb1
  have hRR:∀{z:World},Ext [] wb z->Rd z a 3 Im.enc ms:=fun{z} h=>R.ext0 (hxb.trans h);refine B6 268419120 (α:=Nat) (fun k=>[(4,.int .i64 (Bc inner (L.take k):Int)),(5,.int .i64 (k:Int))]) (fun k w'=>k<=n/\Ext [] wb w'/\KA inner (Bc inner L / 2) (L.drop k) (Bc inner (L.take k))+k=Gj inner L) (fun k=>n - k) 0 U ?_ ?_ ?_
  .exact⟨rfl,rfl,trivial⟩
  .exact⟨qak _,.refl _ _,rfl⟩
  .rintro k j w ⟨hk,hxl,hg⟩;have htk:=MN inner L k;refine Ar (Ad (Ae U (Ae U (Bj U U (qA (Av _ U ?_ ?_))))))
   .intro h2;replace h2:=AR h2
    have hkn:k<n:=by
     rcases qbr k n with h3|h3
     .exact h3
     .rw[qa6 (by omega)]at h2;omega
    obtain⟨x,hx1⟩:=AP (l:=ms) (i:=k);have hxL:=Im.at hl hx1;have hxo:=hok x (qad hx1);have hxs:=hsz x.it (qad hxL);have hts:=SE (inner:=inner) hxL;have htk2:=MN inner L (k+1);rw[Ew hxL,KA,if_pos (by omega),<-hts]at hg;have hD:=Ext.drew [] w;have hoD:=hxo.call ((hxb.trans hxl).trans hD);refine Ap (Aa (AB (BV [([0,1,2,3,4,5,6],7),([8],9)] (fun z=>Ext [] w z) [] mixed (hD) ?_)));refine AD U U ?_;refine B0 U (PN _ BQ Bg U U (fun _ hx=>(fun j v hv=>by rw[Aq (hnode (hxl.trans hx)),qa2];exact hv)) ?_);refine AC Br U (BC BT U (fun _ hx=>Aq (hnode (hxl.trans hx)) (0+1)) ?_);refine B0 U (BX R Bu Bn U U ?_);refine PN _ Dq Bn U U (fun _ hx=>(hRR (hxl.trans hx)).row hx1 rfl) (AV ?_)
    skip
    refine Aj qB (SD inner a n c hoD) U ?_;rintro v w5 ⟨rfl,hx24⟩;have hx5:=hD.trans hx24;refine Ab (Bb (hx5) (AD U U ?_));refine Fl U U (AV (Ac U (Ab (Bb (hx5) (B4 (Au (Ae U (Ay U U ?_))))))));refine Ac U (Ab (AE (Aa ?_)));exact⟨k+1,rfl,⟨by show Value.int .i64 _=Value.int .i64 _;congr 1;rw[hts];omega,rfl,trivial⟩,⟨by omega,hxl.trans hx5,by rw[<-hg];omega⟩,by omega⟩
   .intro h2;replace h2:=AU h2
    have hK:Gj inner L=k:=by
     have h0:KA inner (Bc inner L / 2) (L.drop k) (Bc inner (L.take k))=0:=by
      cases hd:L.drop k with
      |nil=>rfl
      |cons x l=>rw[KA,if_neg (by omega)]
     omega
    have hD:=Ext.drew [] w;have H:=(Ctx.start w []).drew;refine B2 (Aw (Aw (AZ (Aa (BV [([0,1,2,3,4,5,6,7,8,9,10,11,12,13],14),([],15)] (fun z=>Ext [] w z) [] mixed (hD) ?_)))));refine AD U U ?_;refine AC Dy U (BC Ge U (fun _ hx=>Aq (hnode (hxl.trans hx)) (0+0)) ?_);refine AC Br U (BC BT U (fun _ hx=>Aq (hnode (hxl.trans hx)) (0+1)) ?_);refine B0 U (Hr U Bu Bn U U ?_);refine EP [.bool inner,.slice a k c] Hd Co ?_;refine AC Dy U (BC Ge U (fun _ hx=>Aq (hnode (hxl.trans hx)) (0+0)) ?_);refine AC Br U (BC BT U (fun _ hx=>Aq (hnode (hxl.trans hx)) (0+1)) ?_);refine B0 U (Gq Bu Bn U U ?_);refine EP [.bool inner,.slice (EH a c k 3) (n - k) (c - k)] Hd Co (AV ?_)
    skip
    refine Cc [.bool inner,.slice a k c,.bool inner,.slice (EH a c k 3) (n - k) (c - k)] ER Bg Co H ?_;rintro b42 w5 - H;refine Ab (Bb (H.ext) (AD U U ?_));refine AV (Ak U (Ab (Bb (H.ext) (B4 (A6 (AG (v:=(.slice _ _ _)) U U U ?_))))));have hx5:=(hxb.trans hxl).trans H.ext;have I5:=I.call hx5;have hlt:(L.take k).length=k:=by rw[qa0];omega
    have hld:(L.drop k).length=n - k:=by rw[qbg];omega
    refine⟨some ⟨b42,0,none⟩,2,2,rfl,⟨⟨[(a,L.take k,c),(EH a c k 3,L.drop k,c - k)],Rd.of_bl (r:=[]) (H.get at0) ?_ (fun _ _=>rfl),.inr fun hq=>?_,by rw[hh,hK];rfl,fun m hm=>?_⟩,by rw[hh];rfl⟩,hx5⟩
    .simp[Ln,hlt,hld]
    .have:=hM _ hq;have h5:=(H.own _ (qaf ..)).elim (fun h=>by cases h) id;have h6:=(hxb.trans hxl).size;dsimp only[adr]at this h5;omega
    .rcases qac.1 hm with rfl|hm
     .have:=I5.take (k:=k) hk;rw[<-hlt]at this
      simpa[hlt]using this
     .rw[qaa.1 hm];have:=I5.drop (k:=k) hk;rw[<-hld]at this
      simpa[hld]using this
theorem Grown.trans{F F' F'':Mut}{w w' w'':World}(h1:Grown F F' w w')(h2:Grown F' F'' w' w''):Grown F F'' w w'':=by
 obtain⟨⟨S1,hS1,hx1⟩,g1⟩:=h1;obtain⟨⟨S2,hS2,hx2⟩,g2⟩:=h2;have hs:=hx1.size;refine⟨⟨S1++S2.filter (fun x=>decide (x<w.heap.size)),fun x hx=>?_,(hx1.mono fun x h=>qa5 _ h).then hx2 fun x h=>?_⟩,fun x h=>?_⟩
 .rcases qat.1 hx with h|h
  .exact hS1 x h
  .have h5:=qbj.1 h;have h6:x<w.heap.size:=by simpa using h5.2
   exact(g1 x (hS2 x h5.1)).elim id fun h7=>by omega
 .by_cases h6:x<w.heap.size
  .exact .inl (qax _ (qbj.2 ⟨h,qal h6⟩))
  .exact .inr (by omega)
 .rcases g2 x h with h|h
  .exact g1 x h
  .exact .inr (by omega)
structure Fo(w:World)(M:Mut)(Y:List (Nat × Obj)):Prop where
 blk:∀y∈Y,w.heap[y.1]?=some y.2
 nd:Y.Pairwise fun x y=>x.1≠y.1
 off:∀y∈Y,¬M y.1
def MY(M:Mut)(Y:List (Nat × Obj)):Mut:=fun x=>M x\/x∈Y.map (·.1)
section
variable {w w':World}{M M':Mut}{Y Y':List (Nat × Obj)}
theorem Fo.nil:Fo w M []:=⟨(fun y h=>by cases h),List.Pairwise.nil,(fun y h=>by cases h)⟩
theorem Fo.call(h:Fo w M Y)(t:Grown M M' w w'):Fo w' M' Y/\Grown (MY M Y) (MY M' Y) w w':=by
 obtain⟨⟨S,hS,hx⟩,g⟩:=t;refine⟨⟨fun y hy=>?_,h.nd,fun y hy h5=>?_⟩,⟨⟨S,fun x hx => .inl (hS x hx),hx⟩,fun x h5=>?_⟩⟩
 .rw[hx.block y.1 (Al (h.blk y hy)) fun h5=>h.off y hy (hS _ h5)];exact h.blk y hy
 .rcases g _ h5 with h6|h6
  .exact h.off y hy h6
  .have:=Al (h.blk y hy);omega
 .rcases h5 with h5|h5
  .exact(g x h5).imp .inl id
  .exact .inl (.inr h5)
theorem Fo.ctx(h:Fo w M Y):Ctx w (Y.map (·.1)) w Y:=Ctx.startL h.blk h.nd
theorem Fo.own(h:Fo w M Y)(hlt:∀x,M x->x<w.heap.size)(H:Ctx w (Y.map (·.1)) w' Y'):Fo w' M Y'/\Grown (MY M Y) (MY M Y') w w':=by
 refine⟨⟨H.blk,H.nd,fun y hy h5=>?_⟩,⟨⟨Y.map (·.1),fun x hx => .inr hx,H.ext⟩,fun x h5=>?_⟩⟩
 .rcases H.own y hy with h6|h6
  .obtain⟨z,hz,he⟩:=qah.1 h6;exact h.off z hz (by rw[he];exact h5)
  .have:=hlt _ h5;omega
 .rcases h5 with h5|h5
  .exact .inl (.inl h5)
  .obtain⟨y,hy,rfl⟩:=qah.1 h5;exact(H.own y hy).imp .inr id
theorem Fo.weak(h:Fo w M Y)(hM:∀x,M' x->M x):Fo w M' Y:=⟨h.blk,h.nd,fun y hy h5=>h.off y hy (hM _ h5)⟩
def MZ(M Z:Mut):Mut:=fun x=>M x\/Z x
theorem Grown.or(t:Grown M M' w w')(Z:Mut):Grown (MZ M Z) (MZ M' Z) w w':=by
 obtain⟨⟨S,hS,hx⟩,g⟩:=t;exact⟨⟨S,fun x h => .inl (hS x h),hx⟩,fun x h=>h.elim (fun h=>(g x h).imp .inl id) fun h => .inl (.inr h)⟩
end
def pv(k:Nat):Value := .int .i64 (k:Int)
def TC:Nat:=188
structure Ch where
 A:Dev
 P:List Nat
 tk:List Nat
 gn:List Nat
abbrev CL(bt bc:Nat)(ta:Option Addr)(tn tc:Nat)(tf:List Value)(ga:Option Addr)(gn gc:Nat)(gf:List Value):List (Nat × Obj) :=
 (bc,Bl TC [ptr bt,.slice ta tn tc,.slice ga gn gc])::(ent ta 3 tf++ent ga 3 gf)
structure Cx(w:World)(bt bd bp ba fr bc:Nat)(c:Ch)(F:Mut)(L:List (Nat × Obj)):Prop where
 T:Tx w bt bd bp ba fr c.A c.P F L
 ex:∃ta tc tf ga gc gf,L=CL bt bc ta c.tk.length tc tf ga c.gn.length gc gf/\OS ta c.tk.length tc 1 tf (c.tk.map pv)/\OS ga c.gn.length gc 1 gf (c.gn.map pv)
def Ik(P:List Nat):Int:=if CW P=P.length then 7 else 0
def Ci(P:List Nat):Nat:=if CW P=P.length then 0 else CW P
def Jc(P:List Nat):List Nat:=if CW P=P.length then P else P.set (CW P) 2
theorem X6(P:List Nat):Ci P<=P.length:=by
 have:=(qfg (l:=P) (fun s=>decide (s≠0))).length_le;unfold Ci CW;split <;> omega
theorem Ad6{w:World}{bp ba:Nat}{P:List Nat}(h:PgAt w bp ba P):Ret prog 157 #[ptr bp] w fun v w'=>v=.tuple #[.int .i64 (Ci P:Int),.int .i64 (Ik P)]/\PgAt w' bp ba (Jc P)/\Ext [ba] w w' :=
 (Ai0 h).mono fun v w' hh=>by
  rcases hh with⟨h1,hv,hp,hx⟩|⟨h1,hv,rfl⟩
  .have hn:¬CW P=P.length:=by omega
   rw[Ci,Ik,Jc,if_neg hn,if_neg hn,if_neg hn];exact⟨hv,hp,hx⟩
  .rw[Ci,Ik,Jc,if_pos h1,if_pos h1,if_pos h1];exact⟨hv,h,.refl _ _⟩
theorem Ad7{k:UInt8}{l:Byt}{w w':World}{v:Value}(h:Lg k l w v w'):∃a m c,v=.tuple #[.slice a (List.length m) c,.int .i64 (GI k l)]/\Ext [] w w'/\Rdx w' (Old w) a m/\m.length<=c/\(GI k l=0->m=DR k l):=by
 rcases h with⟨h0,rfl,hx⟩|⟨h0,s,rfl,B⟩
 .exact⟨none,[],0,rfl,hx,Rdx.nil,qae _,fun h=>absurd h h0⟩
 .obtain⟨a,c,rfl,R,hc,hn⟩:=B.ex;exact⟨a,_,c,by rw[h0],B.ext,Rdx.fresh R (.inr hn),hc,fun _=>rfl⟩
theorem Rd.turnM{w w':World}{M M':Mut}{α:Type}{a:Option Addr}{s:Nat}{enc:α->List Value}{l:List α}(R:Rd w a s enc l)(hs:l=[]\/¬M (adr a).block)(h0:0<s)(he:∀x∈l,(enc x).length=s)(t:Grown M M' w w'):Rd w' a s enc l/\(l=[]\/¬M' (adr a).block):=by
 rcases hs with rfl|hs
 .exact⟨Rd.nil,.inl rfl⟩
 .obtain⟨⟨S,hS,hx⟩,g⟩:=t;refine⟨R.ext hx fun h=>hs (hS _ h),?_⟩
  rcases Pi R (hs:=h0) he with h|h
  .exact .inl h
  .exact .inr fun h5=>(g _ h5).elim hs fun h6=>by omega
def Jy(inner:Bool)(L:List It):Byt:=DR (HY inner L) (HW inner L)
def SQ(inner:Bool)(L:List It):Int:=GI (HY inner L) (HW inner L)
def Gy(L:List It):Byt:=(L[0]?.map (·.key)).getD []
def wrC(fr:Nat)(c:Ch)(inner:Bool)(L:List It):Int × Ch :=
 if Ik c.P≠0 then(Ik c.P,c)
 else if SQ inner L≠0 then(SQ inner L,{ c with P:=Jc c.P,tk:=c.tk++[Ci c.P] })
 else(Dr c.A (((fr+Ci c.P:Nat)):Int) (Jy inner L),⟨CD c.A (((fr+Ci c.P:Nat)):Int) (Jy inner L),Jc c.P,c.tk++[Ci c.P],c.gn⟩)
theorem Pt{w:World}{bt bd bp ba fr bc:Nat}{c:Ch}{F:Mut}{L:List (Nat × Obj)}(X:Cx w bt bd bp ba fr bc c F L)(hfr:fr<=5000)(inner:Bool){a:Option Addr}{n cc:Nat}{M:List It}(Z:Mut)(I:Its w (MZ (TM F ba bt bp L) Z) a n cc M)(hne:M≠[])(hsz:∀x∈M,x.key.length<=65535/\x.val.length<=65535)(hpg:∀x∈M,x.page<9223372036854775808){mx:Nat}(hfew:Few c.A mx)(htk:c.tk.length<=100000:=by omega)(hm:n<=1000:=by omega)(hmx:mx<=1000000000:=by omega):
  Ret prog 131 #[ptr bc,.agg #[.bool inner,.slice a n cc]] w fun v w'=>∃(m:Im) (F':Mut) (L':List (Nat × Obj)),v=.tuple #[.agg m.enc.toArray,.int .i64 (wrC fr c inner M).1]/\Cx w' bt bd bp ba fr bc (wrC fr c inner M).2 F' L'/\Grown (TM F ba bt bp L) (TM F' ba bt bp L') w w'/\m.Ok w' (MZ (TM F' ba bt bp L') Z)/\m.it.page<=4096/\((wrC fr c inner M).1=0->m.it=⟨Gy M,[],Ci c.P⟩):=by
 obtain⟨w0,rfl⟩:=qD w;obtain⟨T,ta,tc,tf,ga,gc,gf,rfl,Ot,Og⟩:=X;obtain⟨wr,hwr⟩:=qD (wrC fr c inner M);rw[<-hwr];unfold wrC at hwr;have hkl:=X6 c.P;have hpl:=T.pg.len;have H:=T.ctx;refine A8 (fn:=f131) func131 U [.pointer (some ⟨bc,0,none⟩),.agg #[.bool inner,.slice a n cc]] U ?_;refine Ad (Cu [.bool inner,.slice a n cc] (.agg _) U U H ?_);rintro b3 w - H;refine Bi C2 H ?_;rintro b4 w - H;refine Ac U (qA (Ad (An U (A7 U (Af JM U (AH JL U H at2 U (A7 U (Af Lc U (Bd K2 U (Aq (T.own H).1.tr (0+1)) ?_)))))))));obtain⟨T1,G1⟩:=T.own H;refine Aj qB (Ad6 T1.pg) U ?_;rintro v w2 ⟨rfl,hp2,hx2⟩;obtain⟨T2,G2⟩:=T1.page hp2 hx2;have G12:=G1.trans G2;replace H:=T2.ctx;refine AW U (Ai U U (Ai U U (Ac U (Ac U (qA (Ar (Ad (Ae U (Be U U ?_)))))))));refine qA (Av _ U ?_ ?_)
 .intro h1;replace h1:=Bv h1;rw[if_pos h1]at hwr;have hPP:Jc c.P=c.P:=by unfold Jc Ik at *;split <;> simp_all
  refine Ad (B5 [.slice none 0 0,.slice none 0 0,.int .i64 0] MX C2 ?_);refine Ae U (Bo Bn U U U (by simp[Bh]) H at0 U ?_);rintro w H;refine Ac U (qA (A6 (Ao (Du U U U Dq Bn H at0 U (show _=(.int _ _)from rfl) ?_))));obtain⟨T3,G3⟩:=T2.own H.tail.tail;rw[hPP]at T3;exact⟨⟨none,0,none,0,⟨[],[],0⟩⟩,F,_,by rw[hwr];rfl,by rw[hwr];exact⟨T3,ta,tc,tf,ga,gc,gf,rfl,Ot,Og⟩,G12.trans G3,⟨Rdx.nil,Rdx.nil,qae _,qae _⟩,qak _,fun h=>absurd (by rw[hwr]at h;exact h) h1⟩
 .intro h1;replace h1:=Bw h1;rw[if_neg (by simpa using h1)]at hwr;have hl1:(c.tk++[Ci c.P]).length=c.tk.length+1:=by simp
  refine Ap (Aa (Ad (An U (An U (A7 U (Af RY U (AH IQ U H at2 U (Ae U (BI _ (.int _ _) FE HN Zv U U U U H ?_)))))))));rintro b30 w - H;replace H:=H.perm ((((List.perm_append_comm.cons _).cons _).cons _).cons _);refine BL (L:=_::_::_::ent ga 3 gf) FE FE HN by_3 Zv U U U H Ot U (by simp[Bh]) ?_;rintro a31 c31 f31 w H O31;refine A7 U (Af RY U (Bf (.slice _ _ _) Sf U U U H at2 (by(simp;done)) ?_));rintro w H;refine qA (Ad (BO BQ Bg U H at1 U ?_));obtain⟨T3,G3⟩:=T2.own H;have G13:=G12.trans G3;have hFlt:=T3.lt;have I3:=(I.weak fun _ h=>Or.inl h).turn G13;refine Aj qB (Aiu inner I3 hm hsz hpg) U ?_;rintro v w4 SP;obtain⟨sa,sm,sc,rfl,hx36,Xm,hmc,hmm⟩:=Ad7 SP;have T4:=T3.call hx36;have G14:=G13.trans (.call0 hx36);replace H:=T4.ctx
  refine AW U (Ai U U (Ai U U (Ak U (Ac U (qA (Ar (Ad (Ae U (Be U U ?_)))))))));refine qA (Av _ U ?_ ?_)
  .intro h2;replace h2:=Bv h2;have h2':SQ inner M≠0:=h2;rw[if_pos h2']at hwr
   have hO:OS a31 (c.tk++[Ci c.P]).length c31 1 f31 ((c.tk++[Ci c.P]).map pv):=by
    rw[hl1,qay];exact O31
   refine Ad (B5 [.slice none 0 0,.slice none 0 0,.int .i64 0] MX C2 ?_);refine Ae U (Bo Bn U U U (by simp[Bh]) H at0 U ?_);rintro w H;refine Ac U (qA (A6 (Ao (Du U U U Dq Bn H at0 U (show _=(.int _ _)from rfl) ?_))));obtain⟨T5,G5⟩:=T4.own (H.tail.tail.perm (List.perm_append_comm.cons _));refine⟨⟨none,0,none,0,⟨[],[],0⟩⟩,F,_,by rw[hwr];rfl,?_,G14.trans G5,⟨Rdx.nil,Rdx.nil,qae _,qae _⟩,qak _,fun h=>absurd (by rw[hwr]at h;exact h) h2'⟩;rw[hwr];exact⟨T5,a31,c31,f31,ga,gc,gf,by rw[hl1];rfl,hO,Og⟩
  .intro h2;replace h2:=Bw h2;have h2':¬SQ inner M≠0:=fun h=>h h2;rw[if_neg h2']at hwr;have hmm':sm=Jy inner M:=hmm h2
   have hO:OS a31 (c.tk++[Ci c.P]).length c31 1 f31 ((c.tk++[Ci c.P]).map pv):=by
    rw[hl1,qay];exact O31
   obtain⟨ms,R,hs,hl,hok⟩:=I.ex;have hs:ms=[]\/¬TM F ba bt bp _ (adr a).block:=hs.imp id fun h h5=>h (Or.inl h5);have hml:ms.length=n:=by rw[I.num,<-hl,qai]
   have hMp:0<M.length:=qbv.2 hne;have hnum:=I.num;obtain⟨x,hx0⟩:=AP (l:=ms) (i:=0);have hxL:=Im.at hl hx0;have hk0:Gy M=x.it.key:=by unfold Gy;rw[hxL];rfl
   obtain⟨R4,hs4⟩:=Rd.turnM R hs (by decide) (fun _ _=>rfl) G14;have R4d:=R4.ext0 (Ext.drew [] w4);have G1d:=G14.trans (.call0 (Ext.drew [] w4));have T4d:=T4.call (Ext.drew [] w4);have hbc:w4.heap[bc]?=some (Bl TC [ptr bt,.slice a31 (c.tk.length+1) c31,.slice ga c.gn.length gc]):=H.get at2;have hb3:w4.heap[b3]?=some (Bl 183 [.bool inner,.slice a n cc]):=H.get at1;have hbt:=T4.tr;have hcell:=R4.fld hx0 rfl (j:=0) rfl
   have hbl:(HW inner M).length<=505:=by
    unfold SQ GI at h2'
    by_cases h5:505<(HW inner M).length
    .rw[qal h5]at h2';exact absurd (by cases decide ((HY inner M).toNat=0) <;> simp) h2'
    .omega
   have hsl:sm.length=512:=by rw[hmm'];exact FH hbl
   refine Ap (Aa (BV [([0,1,2,3,4,5,6,7,8,9,10,11,12,13,14,15,16,17,18,19,20,21,22,23],24),([],25),([],26)] (fun z=>z.heap[bc]?=some (Bl TC [ptr bt,.slice a31 (c.tk.length+1) c31,.slice ga c.gn.length gc])/\z.heap[b3]?=some (Bl 183 [.bool inner,.slice a n cc])/\z.heap[bt]?=some (Bl TT (Qd bd bp fr))/\z.cell? ⟨(adr a).block,(adr a).off+0*3+0,none⟩=some (.slice x.ka x.it.key.length x.kc)) [] mixed (⟨hbc,hb3,hbt,hcell⟩) ?_));refine AD U U (AC Br U (BC BT U (fun _ hx=>Aq hx.2.1 (0+1)) ?_));refine BX R4 Bu Bn U U (AC FF U (BC B1 U (fun _ hx=>hx.2.2.2) ?_));refine B0 U (EP [.slice x.ka x.it.key.length x.kc,.slice none 0 0,.int .i64 (Ci c.P:Int)] MX C2 ?_);refine C1 U (Bm U (AC JM U (BC JL U (fun _ hx=>Aq hx.1 (0+0)) ?_)))
   refine Bm U (AC WS U (BC Dm U (fun _ hx=>Aq hx.2.2.1 (0+0)) ?_));refine C1 U (Bm U (AC JM U (BC JL U (fun _ hx=>Aq hx.1 (0+0)) ?_)));refine Bm U (AC WT U (BC DV U (fun _ hx=>Aq hx.2.2.1 (0+2)) ?_));refine B0 U (Fl U U ?_);rw[show(fr:Int)+(Ci c.P:Int)=((fr+Ci c.P:Nat):Int)by omega];refine B9 U (AV ?_)
   skip
   refine Aj qB (Pf ((fr+Ci c.P:Nat):Int) sa sc _ sm (Xm.1.ext0 (Ext.drew [] w4)) U (hm:=by omega) (Xm.2.imp id fun h hf=>h (hFlt _ hf)) hfew T4d.dev) U ?_;rintro v w5 ⟨rfl,hd5,ht5⟩;obtain⟨T5,G5⟩:=T4d.devs hd5 ht5 (fun x hx=>hx);obtain⟨R5,hs5⟩:=Rd.turnM R4d hs4 (by decide) (fun _ _=>rfl) G5;replace H:=T5.ctx;have G15:=G1d.trans G5;refine Ab (Bb (⟨T5.ctx.get at2,T5.ctx.get at1,T5.tr,R5.fld hx0 U (j:=0) rfl⟩) (AD U U ?_));refine AV (Bo Bn U U U (by simp[Bh]) H at0 U ?_);rintro w H;refine Ab (Bb (⟨H.get at2,H.get at1,(T5.own H).1.tr,(Rd.turnM R5 hs5 (by decide) (fun _ _=>rfl) (T5.own H).2).1.fld hx0 U (j:=0) rfl⟩) ?_);refine AD U U (AV (Ac U (Ab (Bb (⟨H.get at2,H.get at1,(T5.own H).1.tr,(Rd.turnM R5 hs5 (by decide) (fun _ _=>rfl) (T5.own H).2).1.fld hx0 U (j:=0) rfl⟩) ?_))));refine B4 (A6 (Du U U U Dq Bn H at0 U (show _=(.int _ _)from rfl) ?_))
   obtain⟨T6,G6⟩:=T5.own (H.tail.tail.perm (List.perm_append_comm.cons _));have G16:=G15.trans G6;have hxo:=(hok x (qad hx0)).turn (G16.or Z);refine⟨⟨x.ka,x.kc,none,0,⟨x.it.key,[],Ci c.P⟩⟩,_,_,by rw[hwr,hmm'];rfl,?_,G16,⟨hxo.k,Rdx.nil,hxo.kc,qae _⟩,by dsimp only;omega,fun _=>by rw[hk0]⟩;rw[hwr];rw[hmm']at T6;exact⟨T6,a31,c31,f31,ga,gc,gf,by rw[hl1];rfl,hO,Og⟩
def rdC(fr:Nat)(c:Ch)(page depth:Nat):Ch:=if(Dp c.A fr c.P.length (page:Int) (depth:Int)).1=0 then{ c with gn:=c.gn++[page] }else c
theorem XA{w:World}{bt bd bp ba fr bc:Nat}{c:Ch}{F:Mut}{L:List (Nat × Obj)}(X:Cx w bt bd bp ba fr bc c F L)(hfr:fr<=5000)(page depth:Nat){mx:Nat}(hfew:Few c.A mx)(hgn:c.gn.length<=100000:=by omega)(hp:page<=9223372036854775807:=by omega)(hmx:mx<=1000000000:=by omega):
  Ret prog 201 #[ptr bc,.int .i64 (page:Int),.int .i64 (depth:Int)] w fun v w'=>∃(inner:Bool) (a:Option Addr) (n cc:Nat) (L':List (Nat × Obj)),v=.tuple #[.agg #[.bool inner,.slice a n cc],.int .i64 (Dp c.A fr c.P.length (page:Int) (depth:Int)).1]/\Cx w' bt bd bp ba fr bc (rdC fr c page depth) F L'/\Grown (TM F ba bt bp L) (TM F ba bt bp L') w w' /\
   ∀i M,(Dp c.A fr c.P.length (page:Int) (depth:Int)).2=some (i,M)->inner=i/\Its w' (MZ (TM F ba bt bp L') (Old w)) a n cc M/\∀x∈M,x.key.length<=505/\x.val.length<=505/\x.page<4294967296:=by
 obtain⟨w0,rfl⟩:=qD w;obtain⟨T,ta,tc,tf,ga,gc,gf,rfl,Ot,Og⟩:=X;have H:=T.ctx;obtain⟨rt,hrt⟩:=qD (Dp c.A fr c.P.length (page:Int) (depth:Int));have hc2:rdC fr c page depth=if rt.1=0 then{ c with gn:=c.gn++[page] }else c:=by rw[hrt];rfl
 refine A8 (fn:=f201) func201 U [.pointer (some ⟨bc,0,none⟩),.int .i64 (page:Int),.int .i64 (depth:Int)] U ?_;refine Ad (Bi Co H ?_);rintro b6 w - H;refine Ac U (qA (Ad (An U (A7 U (Af JM U (AH JL U H at1 U (Ae U (Ae U ?_))))))));obtain⟨T1,G1⟩:=T.own H;have hml:=T1.mlt;have hsz:=H.ext.size;refine Aj qB (SK T1 hfr (page:Int) (depth:Int) (by omega) hfew hmx) U ?_;rintro v w2 ⟨inner,aa,nn,cc,rfl,hx17,hits⟩;have T2:=T1.call hx17;have G12:=G1.trans (.call0 hx17);rw[<-hrt]at hits;rw[<-hrt];replace H:=T2.ctx;refine AW U (Ai U U (Ai U U (Bi Co H ?_)));rintro b8 w - H;refine Bo Bg U U U (by simp[Bh]) H at0 U ?_;rintro w H;refine Ac U (qA (Ar (Ad (Ae U (BA U U (qA (Av _ U ?_ ?_)))))))
 .intro h1;replace h1:=AR h1;rw[if_pos h1]at hc2;have hl1:(c.gn++[page]).length=c.gn.length+1:=by simp
  refine Au (An U (An U (A7 U (Af RZ U (AH IQ U H at2 U (Ae U (BI _ (.int _ _) FE HN Zv U U U U H ?_)))))));rintro b28 w - H;refine BL (L:=_::_::_::ent ta 3 tf) FE FE HN by_3 Zv U U U H Og U (by simp[Bh]) ?_;rintro a29 c29 f29 w H O29;refine A7 U (Af RZ U (Bf (.slice _ _ _) Sf U U U H at2 (by(simp;done)) ?_));rintro w H;refine qA (Ad (BO BQ Bg U H at0 U (Ae U (Bo Bg U U U (by simp[Bh]) H at1 U ?_))));rintro w H;refine Ac U (qA (A6 (Du U U U BQ Bg H at1 U (show _=(.int _ _)from rfl) ?_)))
  have hO:OS a29 (c.gn++[page]).length c29 1 f29 ((c.gn++[page]).map pv):=by
   rw[hl1,qay];exact O29
  obtain⟨T5,G5⟩:=T2.own H.tail.tail;have G15:=G12.trans G5;refine⟨inner,aa,nn,cc,_,rfl,?_,G15,fun i M h=>?_⟩
  .rw[hc2];exact⟨T5,ta,tc,tf,a29,c29,f29,by rw[hl1];rfl,Ot,hO⟩
  .obtain⟨h5,h6,h7⟩:=hits i M h;exact⟨h5,(h6.weak (M':=MZ _ (Old w0)) fun x h=>h.elim (hml x) fun h=>qau h hsz).turn (G5.or _),h7⟩
 .intro h1;replace h1:=AU h1;rw[if_neg h1]at hc2;refine Ap (Aa (Ad (BO BQ Bg U H at0 U (Ae U (Bo Bg U U U (by simp[Bh]) H at1 U ?_)))));rintro w H;refine Ac U (qA (A6 (Du U U U BQ Bg H at1 U (show _=(.int _ _)from rfl) ?_)));obtain⟨T5,G5⟩:=T2.own H.tail.tail;have G15:=G12.trans G5;refine⟨inner,aa,nn,cc,_,rfl,?_,G15,fun i M h=>?_⟩
  .rw[hc2];exact⟨T5,ta,tc,tf,ga,gc,gf,rfl,Ot,Og⟩
  .obtain⟨h5,h6,h7⟩:=hits i M h;exact⟨h5,(h6.weak (M':=MZ _ (Old w0)) fun x h=>h.elim (hml x) fun h=>qau h hsz).turn (G5.or _),h7⟩
def C3(fr:Nat)(inner:Bool):List (List It)->Ch->List It->Int × Ch × List It
 | [],c,acc=>(0,c,acc)
 |h::t,c,acc=>if(wrC fr c inner h).1=0 then C3 fr inner t (wrC fr c inner h).2 (acc++[⟨Gy h,[],Ci c.P⟩])else((wrC fr c inner h).1,(wrC fr c inner h).2,[])
def JE(fr:Nat)(c:Ch)(inner:Bool)(L:List It):Int × Ch × List It:=if L=[]then(0,c,[])else C3 fr inner (DM inner L) c []
theorem QA{fr:Nat}{c:Ch}{inner:Bool}{M:List It}{m:Nat}(h:Few c.A m):Few (wrC fr c inner M).2.A (m+1):=by
 unfold wrC
 split
 .exact h.mono (by omega)
 .split
  .exact h.mono (by omega)
  .exact Hv h _ _
theorem SR{fr:Nat}{c:Ch}{inner:Bool}{M:List It}:(wrC fr c inner M).2.tk.length<=c.tk.length+1:=by
 unfold wrC
 split
 .exact qdd _
 .split
  .rw[qan];exact qae _
  .rw[qan];exact qae _
end Go.Proofs.YtcpgbcabmcbclaaGreatDoor
