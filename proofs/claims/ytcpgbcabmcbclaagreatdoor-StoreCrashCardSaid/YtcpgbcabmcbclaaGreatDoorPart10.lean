/- Part 10 of the proof. -/
import Derived.Test.YtcpgbcabmcbclaaGreatDoorPart9
set_option maxRecDepth 20000
set_option maxHeartbeats 4000000
namespace Go.Proofs.YtcpgbcabmcbclaaGreatDoor
open Go.GV Go.Proofs.Tryz
attribute [local irreducible] AB W Wq Wt
section
variable {α β:Type}{f:α->β}{k k':Byt}{x:α}
theorem Fh{m:List (Byt × α)}:BI (m.map fun p=>(p.1,f p.2)) k=(BI m k).map f:=by
 induction m with
 |nil=>rfl
 |cons p m ih =>
  unfold BI at ih |-
  by_cases h:p.1=k <;> simp_all
theorem Oy:∀{m:List (Byt × α)},J9 (m.map fun p=>(p.1,f p.2)) k (f x)=(J9 m k x).map fun p=>(p.1,f p.2)
 | []=>rfl
 |p::m=>by
  simp only[qay,J9]
  split
  .rfl
  .rw[Oy (m:=m)];rfl
theorem Oz:∀{m:List (Byt × α)},Gq (m.map fun p=>(p.1,f p.2)) k=(Gq m k).map fun p=>(p.1,f p.2)
 | []=>rfl
 |p::m=>by
  simp only[qay,Gq]
  split
  .rfl
  .rw[Oz (m:=m)];rfl
theorem EU{m:List (Byt × α)}(h:BI m k=some x):(k,x)∈m:=by
 unfold BI at h;obtain⟨p,hp,rfl⟩:=qey.1 h;have h1:=List.mem_of_find?_eq_some hp;have h2:=List.find?_some hp;simp only[qap]at h2;subst h2;exact h1
theorem FX{m:List (Byt × α)}:(BI m k).isSome=decide (k∈m.map (·.1)):=by
 induction m with
 |nil=>rfl
 |cons p m ih =>
  unfold BI at ih |-
  by_cases h:p.1=k
  .simp[h]
  .have h':¬k=p.1:=fun e=>h e.symm;simp_all
end
structure Sv where
 a:Option Addr
 c:Nat
 v:Byt
def Sv.enc(s:Sv):Value := .slice s.a s.v.length s.c
abbrev mv(l:List (Byt × Sv)):List (Byt × Value):=l.map fun p=>(p.1,p.2.enc)
abbrev mi(l:List (Byt × Int)):List (Byt × Value):=l.map fun p=>(p.1,.int .i64 p.2)
structure KvAt(w:World)(M:Mut)(l:List (Byt × Sv))(o:Obj):Prop where
 m:En str (mv l) o
 ok:∀p∈l,Rdx w M p.2.a p.2.v/\p.2.v.length<=p.2.c
 few:∀p∈l,p.1.length<=32/\p.2.v.length<=128
def MG(k v:Byt):Int:=((k.length+v.length+4:Nat):Int)
def Jk(l:List (Byt × Sv))(k:Byt):Int:=match BI l k with|some s=>MG k s.v|none=>0
def HA(x:Wr):Int:=if x.d=true then 0 else MG x.k x.v
def HB(seen:Bool)(x:Wr):Bool:=seen || (decide (x.k=[]) || (decide (32<x.k.length) || (decide (128<x.v.length) || (x.d && decide (0<x.v.length)))))
def goR(l:List (Byt × Sv))(room:Int):List Byt->Int->List Wr->Int
 |_,b,[]=>if room<b then 7 else 0
 |seen,b,x::L=>if HB (decide (x.k∈seen)) x=true then 1 else goR l room (seen++[x.k]) (b - Jk l x.k+HA x) L
def Wz(l:List (Byt × Sv))(n room:Int)(L:List Wr):Int:=if 1000<L.length then 6 else goR l room [] n L
theorem Ae4{bs bd bsu bma m1 m2 sz gen:Nat}{left n root:Int}{on dead:Bool}{vj vp vt:Value}{o1:Obj}{M:Mut}{l:List (Byt × Sv)}(w:World)(a:Option Addr)(nn c:Nat)(L:List Wr)(hs:w.heap[bs]?=some (Bl CU (CN (ptr bd) vj vp vt gen root m1 m2 n dead)))(hd:w.heap[bd]?=some (Bl TD (DB sz bsu bma left on)))(h1m:w.heap[m1]?=some o1)(K:KvAt w M l o1)(X:Wrs w M a nn c L)(hnn:nn<=1000000000)(hsz:sz<=100000:=by omega)(hn0: -1000000000<=n:=by omega)(hn1:n<=1000000000:=by omega):
  Ret prog 43 #[ptr bs,.slice a nn c] w fun v w'=>v=.int .i64 (Wz l n (Cu sz) L)/\Ext [] w w':=by
 obtain⟨w0,rfl,H⟩:=qE w;obtain⟨ps,R,-,hl,hp⟩:=X.ex;have hnL:=X.num;have hpn:ps.length=nn:=by rw[hnL,<-hl,qaj]
 refine A6 (fn:=f43) func43 U [ptr bs,.slice a nn c] U (Ad (Ac U (qA (Aq (Ad (Aj U (AP CD U (BZ U U (qA (Au _ U ?_ ?_))))))))))
 .intro h1;replace h1:=AV h1;refine Ad (Ac U (qA (Ax (Ao (AG (v:=(.int _ _)) U U U ?_)))));exact⟨qab (Value.int .i64) (if_pos (by omega)).symm,Ext.refl _ _⟩
 .intro h1;replace h1:=AW h1;have hrE:Wz l n (Cu sz) L=goR l (Cu sz) [] n L:=if_neg (by omega);rw[hrE];refine Ap (Aa (Ad (KX (κ:=List UInt8) str U H ?_)));rintro b17 o17 w hM H;refine RI U U (qA (Ad (Am U (A8 U (Af Mh U (Be DW U ((by rw[Ar (H.ext.to hs (by simp))];rfl)) ?_))))));refine Ac U (qA (Aq (Ad (Aj U (AP CD U (Ae U (qA (AE (B7 38685626227668133573836752 (α:=Nat × Int × List (Byt × Int) × Obj) (fun s=>[(24,.int .i64 (s.1:Int)),(6,.int .i64 s.2.1)]) (fun s w'=>s.1<=nn/\Ctx w0 [] w' [(b17,s.2.2.2)]/\En str (mi s.2.2.1) s.2.2.2/\goR l (Cu sz) (s.2.2.1.map (·.1)) s.2.1 (L.drop s.1)=goR l (Cu sz) [] n L/\n - 200*(s.1:Int)<=s.2.1/\s.2.1<=n+200*(s.1:Int)) (fun s=>nn - s.1) (0,n,[],o17) U ?_ ?_ ?_)))))))))
  .exact⟨rfl,rfl,trivial⟩
  .exact⟨qak _,H,hM,rfl,by simp,by simp⟩
  .clear H hM;rintro⟨i,b,ss,o⟩ j w1 ⟨hi,H,hM,hgo,hb1,hb2⟩;dsimp only at hi H hM hgo hb1 hb2;dsimp only;refine Ad (Bn U U (qA (Aq (Au _ U ?_ ?_))))
   .intro h2;replace h2:=AV h2;obtain⟨m,hm⟩:=AO (l:=ps) (i:=i);have hok:=hp m (qad hm);have hxL:L[i]?=some m.x:=by rw[<-hl,qat,hm];rfl
    have hdr:L.drop i=m.x::L.drop (i+1):=by
     obtain⟨hlt,he⟩:=qaq.1 hxL;rw[qd0 hlt,he]
    rw[hdr,goR]at hgo;refine Ap (Aa (Aq (AE (Ad (Ae U (AY R CD CQ U U ?_))))));refine EY _ RZ CQ U U ((R.ext0 H.ext).row hm U) (Bj Fy H ?_);rintro b8 w - H;refine Ac U (Bo CQ U U U (by exact FW m) H at0 U ?_);rintro w H;refine qA (Ad (Af FT U (AH B4 U H at0 U (Kk AX GR F7 U (hok.k.1.ext0 H.ext) ?_))));refine IG U U (qA (Ad (KU U U (Cd U (FR (m:=mi ss) (n:=m.x.k) U Sn (Fx F7) zv_3 U U H at1 hM ?_)))));rw[show(BI (mi ss) m.x.k).getD (.int .i64 0)=.int .i64 ((BI ss m.x.k).getD 0)by(rw[Fh (f:=Value.int .i64)];cases BI ss m.x.k <;> rfl),show(BI (mi ss) m.x.k).isSome=decide (m.x.k∈ss.map (·.1))by(rw[Fh (f:=Value.int .i64),qe6,FX])];refine AQ U (Ah U U (Ah U U (Ac U (An U (qA (Aq (AE (Aq (Ad ?_)))))))))
    refine AA U (An U (qA (EZ 144114363442135040 (α:=Unit) (fun _=>[(38,.bool (HB (decide (m.x.k∈ss.map (·.1))) m.x))]) (fun _ w'=>Ctx w0 [] w' [(b8,Bl 56 (CO m)),(b17,o)]) U ?_ ?_)))
    .skip
     refine DC 38 U ?_ ?_
     .intro c1;refine Ap (Aa ?_);exact⟨(),rfl,⟨qab Value.bool (by unfold HB;simp_all),trivial⟩,H⟩
     .intro c1;refine Ad (Cd U (RJ (m:=[]) U U U ?_));refine An U (qA (DC 38 U ?_ ?_))
      .intro c2;refine Ap (Aa ?_);exact⟨(),rfl,⟨qab Value.bool (by unfold HB;simp_all),trivial⟩,H⟩
      .intro c2;refine Ad (Cd U (VS U F7 U ?_));refine BZ U U (An U (qA (DC 38 U ?_ ?_)))
       .intro c3;replace c3:=AV c3;refine Ap (Aa ?_);exact⟨(),rfl,⟨qab Value.bool (by unfold HB;simp_all;omega),trivial⟩,H⟩
       .intro c3;replace c3:=AW c3;refine Ad (Af FU U (AH B4 U H at0 U (AP AX U (BZ U U (An U (qA (DC 38 U ?_ ?_)))))))
        .intro c4;replace c4:=AV c4;refine Ap (Aa ?_);exact⟨(),rfl,⟨qab Value.bool (by unfold HB;simp_all;omega),trivial⟩,H⟩
        .intro c4;replace c4:=AW c4;refine Av (Af Jp U (AH Gf U H at0 U (AA U (AR 51 U ?_ ?_))))
         .intro c5;refine Af FU U (AH B4 U H at0 U (AP AX U (BZ U U (AN U (.bool _) U (An U (qA ?_))))));exact⟨(),rfl,⟨qab Value.bool (by unfold HB;simp_all;(rw[qag (show ¬32<m.x.k.length by omega),qag (show ¬128<m.x.v.length by omega)];rfl)),trivial⟩,H⟩
         .intro c5;refine Ag U (Ag U (Ag U (Ag U (AK U (.bool _) U (An U (qA ?_))))));exact⟨(),rfl,⟨qab Value.bool (by unfold HB;simp_all;omega),trivial⟩,H⟩
    .rintro - j38 w H;refine DC 38 U ?_ ?_
     .intro hb;rw[if_pos hb]at hgo;refine Ad (Ac U (qA (Ax (AL (Ao (AL (Ao (Ao (AL (Ao (AG (v:=(.int _ _)) U U U ?_)))))))))));exact⟨qab (Value.int .i64) hgo,H.ext⟩
     .intro hb;rw[if_neg (by simp[hb])]at hgo
      have hfew:m.x.k.length<=32/\m.x.v.length<=128/\m.x.k∉ss.map (·.1):=by
       unfold HB at hb;simp only[qdz,qct]at hb;exact⟨by omega,by omega,hb.1⟩
      have hset:J9 (mi ss) m.x.k (.int .i64 (i:Int))=mi (ss++[(m.x.k,(i:Int))]):=by
       rw[FQ (by rw[Fh (f:=Value.int .i64),Option.map_eq_none_iff,<-qdf,FX];simpa using hfew.2.2)];simp
      rcases hq:BI l m.x.k with _|s
      .skip
       have hold:Jk l m.x.k=0:=by unfold Jk;rw[hq]
       refine Ap (AF (Aa (Ad (KU U U (Cd U (Ae U (HD (.int .i64 (i:Int)) U Sn (Fx F7) U U U H at1 hM ?_)))))));rw[hset];clear hM;rintro o16 w hM H;refine qA (Aq (Ad (Am U (A8 U (Af HF U (Be ML U ((by rw[Ar (H.ext.to hs (by simp))];rfl)) ?_))))));refine Cd U (FR (m:=mv l) (n:=m.x.k) U NO (Fx F7) Sw U U (Ctx.start1 (H.ext.to h1m (by simp))) at0 K.m ?_);rw[Fh (f:=Sv.enc),hq];refine AQ U (Ah U U (Ah U U (Ak U (An U (qA (Ad (AA U (qA (Bz U ?_)))))))));refine Ap (Aa (Ad (Af Jp U (AH Gf U H at0 U (BX U (qA (Au _ U ?_ ?_)))))))
       .intro hdd;replace hdd:=Cz hdd;have hnew:HA m.x=MG m.x.k m.x.v:=by unfold HA;rw[if_neg (by simp_all)]
        rw[hold,hnew]at hgo;refine Av (Ae U (Cd U (Af FU U (AH B4 U H at0 U (Ai qB (JT m.x.k m.x.v m.va m.vc _) U ?_)))));rintro v w ⟨rfl,rfl⟩;refine A7 U U (Ac U (Ab (AF (Aa (Av (A7 U U ?_))))));refine Ae U (qA ?_);refine⟨(i+1,b+((m.x.k.length+m.x.v.length+4:Nat):Int),ss++[(m.x.k,(i:Int))],o16),rfl,⟨rfl,rfl,trivial⟩,⟨by dsimp only;omega,(H.drop 1:Ctx w0 [] _ [(b17,o16)]),hM,?_,?_,?_⟩,by dsimp only;omega⟩
        .dsimp only;rw[qaz,<-hgo];simp[MG]
        .dsimp only;omega
        .dsimp only;omega
       .intro hdd;replace hdd:=C0 hdd;have hnew:HA m.x=0:=by unfold HA;rw[if_pos (by simp_all)]
        rw[hold,hnew]at hgo;refine Ap (AF (Aa (Av (A7 U U ?_))));refine Ae U (qA ?_);refine⟨(i+1,b,ss++[(m.x.k,(i:Int))],o16),rfl,⟨rfl,rfl,trivial⟩,⟨by dsimp only;omega,(H.drop 1:Ctx w0 [] _ [(b17,o16)]),hM,?_,?_,?_⟩,by dsimp only;omega⟩
        .dsimp only;rw[qaz,<-hgo];simp
        .dsimp only;omega
        .dsimp only;omega
      .skip
       have hold:Jk l m.x.k=MG m.x.k s.v:=by unfold Jk;rw[hq]
       have hsf:=(K.few _ (EU hq)).2;dsimp only at hsf;refine Ap (AF (Aa (Ad (KU U U (Cd U (Ae U (HD (.int .i64 (i:Int)) U Sn (Fx F7) U U U H at1 hM ?_)))))));rw[hset];clear hM;rintro o16 w hM H;refine qA (Aq (Ad (Am U (A8 U (Af HF U (Be ML U ((by rw[Ar (H.ext.to hs (by simp))];rfl)) ?_))))));refine Cd U (FR (m:=mv l) (n:=m.x.k) U NO (Fx F7) Sw U U (Ctx.start1 (H.ext.to h1m (by simp))) at0 K.m ?_);rw[Fh (f:=Sv.enc),hq];refine AQ U (Ah U U (Ah U U (Ak U (An U (qA (Ad (AA U (qA (EA U ?_)))))))));refine Av (Ae U (Cd U (Aj U (Ai qB (JT m.x.k s.v s.a s.c _) U ?_))));rintro v w ⟨rfl,rfl⟩;refine BB U U (Ac U (qA (Ad (Af Jp U (AH Gf U H at0 U (BX U (qA (Au _ U ?_ ?_))))))))
       .intro hdd;replace hdd:=Cz hdd;have hnew:HA m.x=MG m.x.k m.x.v:=by unfold HA;rw[if_neg (by simp_all)]
        rw[hold,hnew]at hgo;refine Av (Ae U (Cd U (Af FU U (AH B4 U H at0 U (Ai qB (JT m.x.k m.x.v m.va m.vc _) U ?_)))));rintro v w ⟨rfl,rfl⟩;refine A7 U U (Ac U (Ab (AF (Aa (Av (A7 U U ?_))))));refine Ae U (qA ?_);refine⟨(i+1,b - ((m.x.k.length+s.v.length+4:Nat):Int)+((m.x.k.length+m.x.v.length+4:Nat):Int),ss++[(m.x.k,(i:Int))],o16),rfl,⟨rfl,rfl,trivial⟩,⟨by dsimp only;omega,(H.drop 1:Ctx w0 [] _ [(b17,o16)]),hM,?_,?_,?_⟩,by dsimp only;omega⟩
        .dsimp only;rw[qaz,<-hgo];simp[MG]
        .dsimp only;omega
        .dsimp only;omega
       .intro hdd;replace hdd:=C0 hdd;have hnew:HA m.x=0:=by unfold HA;rw[if_pos (by simp_all)]
        rw[hold,hnew]at hgo;refine Ap (AF (Aa (Av (A7 U U ?_))));refine Ae U (qA ?_);refine⟨(i+1,b - ((m.x.k.length+s.v.length+4:Nat):Int),ss++[(m.x.k,(i:Int))],o16),rfl,⟨rfl,rfl,trivial⟩,⟨by dsimp only;omega,(H.drop 1:Ctx w0 [] _ [(b17,o16)]),hM,?_,?_,?_⟩,by dsimp only;omega⟩
        .dsimp only;rw[qaz,<-hgo];simp[MG]
        .dsimp only;omega
        .dsimp only;omega
   .intro h2;replace h2:=AW h2;obtain rfl:i=nn:=by omega
    rw[qb7 (by omega),goR]at hgo;refine B3 (Ay (Ay (Bb (Aa (Aq (Ad (Ae U (Am U (A8 U (Af QH U (Be Dn U ((by rw[Ar (H.ext.to hs (by simp))];rfl)) ?_)))))))))));refine Ai qB (He (H.ext.to hd (by simp))) U ?_;rintro v w ⟨rfl,rfl⟩;refine Ai qB (L6 _ (h:=by omega) _) U ?_;rintro v w ⟨rfl,rfl⟩;refine BZ U U (qA (Au _ U ?_ ?_))
    .intro h3;replace h3:=AV h3;refine Ad (Ac U (qA (Ax (Ao (AG (v:=(.int _ _)) U U U ?_)))));exact⟨qab (Value.int .i64) (by rw[<-hgo,if_pos h3]),H.ext⟩
    .intro h3;replace h3:=AW h3;refine Ap (Aa (Ad (Ac U (qA (Ax (AG (v:=(.int _ _)) U U U ?_))))));exact⟨qab (Value.int .i64) (by rw[<-hgo,if_neg h3]),H.ext⟩
def Uf(l:List (Byt × Sv))(x:Wr)(s:Sv):List (Byt × Sv):=if x.d=true then Gq l x.k else J9 (Gq l x.k) x.k s
def JU(t:List (Byt × Int))(k:Byt):List (Byt × Int):=J9 t k ((BI t k).getD 0+1)
theorem JV{α:Type}{k:Byt}:∀{m:List (Byt × α)} {p:Byt × α},p∈Gq m k->p∈m
 | [],_,h=>h
 |q::m,p,h=>by
  unfold Gq at h
  split at h
  .exact qai _ h
  .rcases qac.1 h with rfl|h
   .exact qaf ..
   .exact qai _ (JV h)
theorem OC{α:Type}{k:Byt}{v:α}:∀{m:List (Byt × α)} {p:Byt × α},p∈J9 m k v->p=(k,v)\/p∈m
 | [],p,h => .inl (qaa.1 h)
 |q::m,p,h=>by
  unfold J9 at h
  split at h
  .rcases qac.1 h with h|h
   .exact .inl h
   .exact .inr (qai _ h)
  .rcases qac.1 h with rfl|h
   .exact .inr (qaf ..)
   .exact(OC h).imp id (qai _)
theorem Yr{l:List (Byt × Sv)}{x:Wr}{s:Sv}{p:Byt × Sv}(h:p∈Uf l x s):(x.d=false/\p=(x.k,s))\/p∈l:=by
 unfold Uf at h
 split at h
 .exact .inr (JV h)
 .rename_i hd
  exact(OC h).imp (fun h=>⟨by simpa using hd,h⟩) JV
theorem Ty{t:List (Byt × Int)}{k:Byt}{T:Int}(ht:∀p∈t,0<=p.2/\p.2<=T)(hT:0<=T):(∀p∈JU t k,0<=p.2/\p.2<=T+1)/\0<=(BI t k).getD 0/\(BI t k).getD 0<=T:=by
 have h0:0<=(BI t k).getD 0/\(BI t k).getD 0<=T:=by
  cases hq:BI t k with
  |none=>exact⟨Int.le_refl _,hT⟩
  |some z=>exact ht _ (EU hq)
 refine⟨fun p hp=>?_,h0⟩
 rcases OC hp with rfl|hp
 .dsimp only;omega
 .have:=ht p hp;omega
theorem Ctx.ent_new{w0 w:World}{S:List Nat}{L:List (Nat × Obj)}{a:Option Addr}{t n c:Nat}{full:List Value}{l:Byt}(H:Ctx w0 S w (L++ent a t full))(hS:∀x∈S,∃o,(x,o)∈L)(O:OS a n c 1 full (l.map bv)):l=[]\/w0.heap.size<=(adr a).block:=by
 cases ha:a with
 |none =>
  left;have h8:=O.none' ha;have h9:=O.le;have h10:=O.llen;rw[qaj]at h10;exact qa4 (by omega)
 |some q =>
  subst ha;right;have hin:∀y∈ent (some q) t full,y.1=q.block:=fun y hy=>by rw[qaa.1 hy]
  have h1:(q.block,Bl t full)∈ent (some q) t full:=qaa.2 rfl
  rcases H.own _ (qax _ h1)with h|h
  .obtain⟨o,ho⟩:=hS _ h;exact absurd U ((qca.1 H.nd).2.2 (q.block,o) ho (q.block,Bl t full) h1)
  .exact h
theorem Acq{w:World}{bs m1 m2 gen:Nat}{n root T:Int}{dead:Bool}{vd vj vp vt:Value}{o1 o2:Obj}{M:Mut}{l:List (Byt × Sv)}{t:List (Byt × Int)}(H:Ctx w [bs,m1,m2] w [(bs,Bl CU (CN vd vj vp vt gen root m1 m2 n dead)),(m1,o1),(m2,o2)])(K:KvAt w M l o1)(hM2:En str (mi t) o2)(hS:∀x∈[bs,m1,m2],M x)(hMb:∀x,M x->x<w.heap.size){M9:Mut}(hS9:∀x∈[bs,m1,m2],M9 x)(m:Wm)(hm:m.Ok w M9)(hf:m.x.Few)(ht:∀p∈t,0<=p.2/\p.2<=T)(hn: -1000000000<=n/\n<=1000000000:=by omega)(hT:0<=T/\T<=1000000000000:=by omega):
  Ret prog 49 #[ptr bs,.agg (CO m).toArray] w fun v w'=>v=.tuple #[]/\∃s o1' o2',Ctx w [bs,m1,m2] w' [(bs,Bl CU (CN vd vj vp vt gen root m1 m2 (n - Jk l m.x.k+HA m.x) dead)),(m1,o1'),(m2,o2')]/\KvAt w' M (Uf l m.x s) o1'/\s.v=m.x.v/\En str (mi (JU t m.x.k)) o2':=by
 obtain⟨w0,rfl⟩:=qD w;unfold Wr.Few at hf;obtain⟨htl,ht1,ht2⟩:=Ty (k:=m.x.k) ht hT.1
 have hold:0<=Jk l m.x.k/\Jk l m.x.k<=164:=by
  unfold Jk
  cases hq:BI l m.x.k with
  |none=>simp
  |some s=>have:=K.few _ (EU hq);dsimp only[MG]at this |-;omega
 refine A6 (fn:=f49) func49 U [ptr bs,.agg (CO m).toArray] U ?_
 obtain⟨A,N,C,hz⟩:∃A N C,((BI l m.x.k).map Sv.enc).getD (.slice none 0 0)=.slice A N C:=by
  cases BI l m.x.k with
  |none=>exact⟨_,_,_,rfl⟩
  |some s=>exact⟨_,_,_,rfl⟩
 refine Ad (Cn (CO m) (.agg _) U U H ?_);rintro b3 w - H;refine qA (Ad (Af FT U (AH B4 U H at0 U (Kk AX GR F7 U (Rdx.read hm.k H.ext hS9) ?_))));refine IG U U (qA (Aq (Ad (Am U (A8 U (Af HF U (AH ML U H at1 U (Cd U (FR (m:=mv l) (n:=m.x.k) U NO (Fx F7) Sw U U H at2 K.m ?_)))))))));rw[Fh (f:=Sv.enc),hz,qe6];refine AQ U (Ah U U (Ah U U (Ak U (An U (qA (Ad (AA U (qA (EZ 34358689792 (α:=Obj) (fun _=>[]) (fun z w'=>En str (mv (Gq l m.x.k)) z/\Ctx w0 [bs,m1,m2] w' [(b3,Bl 56 (CO m)),(bs,Bl CU (CN vd vj vp vt gen root m1 m2 (n - Jk l m.x.k) dead)),(m1,z),(m2,o2)]) U ?_ ?_)))))))))
 .skip
  refine Au _ U ?_ ?_
  .intro h19;obtain⟨s,hq⟩:=qdh.1 h19;rw[hq]at hz;have ho1:Jk l m.x.k=MG m.x.k s.v:=by unfold Jk;rw[hq]
   have hsf:=(K.few _ (EU hq)).2;dsimp only at hsf
   obtain⟨rfl,rfl,rfl⟩:s.a=A/\s.v.length=N/\s.c=C:=by injection hz with h1 h2 h3;exact⟨h1,h2,h3⟩
   refine BR [([0,1,2,3,4,5],6),([7,8,9],10)] (fun z=>z.heap[bs]?=some (Bl CU (CN vd vj vp vt gen root m1 m2 n dead))) [10] mixed (H.drew.get at1) (AC U U ?_);refine Cs U (Bg U (AD Mh U (BG DW U (fun _ hx=>(by rw[Ar hx];rfl)) ?_)));refine VP U U (BF U (AU ?_));replace H:=H.drew;refine Ai qB (JT m.x.k s.v s.a s.c _) U ?_;rintro v w ⟨rfl,rfl⟩;refine Ab (Bc (H.get at1) (AC U U ?_));refine Iu U U U (Bg U (AD Mh U (AU (Bf (.int _ _) Hv U U U H at1 (by(simp;done)) ?_))));rintro w H;refine Ab (De U (B1 (Av (Am U (A8 U (Af HF U (AH ML U H at1 U (Cd U (Z2 (m:=mv l) (n:=m.x.k) U NO (Fx F7) U U H at2 K.m ?_)))))))));rw[Oz];rintro o5 w hM1 H;refine qA ?_;exact⟨o5,rfl,trivial,hM1,by rw[ho1];exact H⟩
  .intro h19;have hq:BI l m.x.k=none:=by simpa using h19
   refine Ap (Aa ?_);exact⟨o1,rfl,trivial,by rw[Pa hq];exact K.m,by rw[show Jk l m.x.k=0 by(unfold Jk;rw[hq]),Int.sub_zero];exact H⟩
 .rintro o5 j19 w ⟨hM1,H⟩
  have hSL:∀(z:Obj) (y:Obj),∀x∈[bs,m1,m2],∃o,(x,o)∈[(b3,Bl 56 (CO m)),(bs,y),(m1,z),(m2,o2)]:=fun z y x hx=>by
   simp only[qac,qam,or_false]at hx
   rcases hx with rfl|rfl|rfl
   .exact⟨y,by simp⟩
   .exact⟨z,by simp⟩
   .exact⟨o2,by simp⟩
  refine Aq (Ad (Af Jp U (AH Gf U H at0 U (BX U (qA (EZ 288230101273804800 (α:=Sv × Obj × List (Nat × Obj)) (fun _=>[]) (fun z w'=>z.1.v=m.x.v/\En str (mv (Uf l m.x z.1)) z.2.1/\(m.x.d=false->(∀w':World,(∀x∈z.2.2,w'.heap[x.1]?=some x.2)->Rd w' z.1.a 1 B8 z.1.v)/\(z.1.v=[]\/w0.heap.size<=(adr z.1.a).block)/\z.1.v.length<=z.1.c)/\Ctx w0 [bs,m1,m2] w' ([(b3,Bl 56 (CO m)),(bs,Bl CU (CN vd vj vp vt gen root m1 m2 (n - Jk l m.x.k+HA m.x) dead)),(m1,z.2.1),(m2,o2)]++z.2.2)) U ?_ ?_))))))
  .skip
   refine Au _ U ?_ ?_
   .intro hd;replace hd:=Cz hd;have hd':m.x.d=false:=by simpa using hd
    have hnew:HA m.x=((m.x.k.length+m.x.v.length+4:Nat):Int):=by unfold HA;rw[if_neg (by simp[hd'])];rfl
    refine BR [([0,1,2,3,4,6,7],5),([],8),([],9)] (fun z=>(z.heap[bs]?=some (Bl CU (CN vd vj vp vt gen root m1 m2 (n - Jk l m.x.k) dead))/\z.heap[b3]?=some (Bl 56 (CO m)))) [] mixed (⟨H.drew.get at1,H.drew.get at0⟩) ?_;refine AC U U (Cs U (Bg U (AD HF U (BG ML U (fun _ hx=>(by rw[Ar hx.1];rfl)) ?_))));refine VP U U (AD FU U (BG B4 U (fun _ hx=>(by rw[Ar hx.2];rfl)) ?_));refine AU ?_;replace H:=H.drew;refine JF U AX CT H ?_;rintro b43 w H O;refine Ab (Bc (⟨H.get at1,H.get at0⟩) (AC U U ?_));refine AU (DS U AX AX CT Pf IP U (m.x.v.map bv) U U H O (by simp) (Ht m.x.v) (Rd.appB (Rdx.read hm.v H.ext hS9)) ?_);clear H O;rintro a46 c46 f46 w H O;rw[qa2 m.x.v.length];replace O:OS a46 m.x.v.length c46 1 f46 (m.x.v.map bv):=(by simpa using O);refine Ab (Bc (⟨H.get at1,H.get at0⟩) (AC U U ?_))
    refine AU (HD (.slice a46 m.x.v.length c46) U NO (Fx F7) U U U H at2 hM1 ?_);rw[show J9 (mv (Gq l m.x.k)) m.x.k (.slice a46 m.x.v.length c46)=mv (Uf l m.x ⟨a46,c46,m.x.v⟩)by(unfold Uf;rw[if_neg (by simp[hd'])];exact Oy (f:=Sv.enc) (x:=⟨a46,c46,m.x.v⟩))];rintro o9 w hM3 H9;have H:Ctx w0 [bs,m1,m2] w ([(b3,Bl 56 (CO m)),(bs,Bl CU (CN vd vj vp vt gen root m1 m2 (n - Jk l m.x.k) dead)),(m1,o9),(m2,o2)]++ent a46 5 f46):=H9;refine Ab (Bc (⟨H.get at1,H.get at0⟩) (B1 (Kg [([0,1,2,3,4,5,6],7),([8,9,10],11)] (fun z=>(z.heap[bs]?=some (Bl CU (CN vd vj vp vt gen root m1 m2 (n - Jk l m.x.k) dead))/\z.heap[b3]?=some (Bl 56 (CO m)))) [11] mixed (⟨H.drew.get at1,H.drew.get at0⟩) ?_)));refine AC U U (Cs U (Bg U (AD Mh U (BG DW U (fun _ hx=>(by rw[Ar hx.1];rfl)) ?_))));refine VP U U (AD FU U (BG B4 U (fun _ hx=>(by rw[Ar hx.2];rfl)) ?_));refine AU ?_
    replace H:=H.drew;refine Ai qB (JT m.x.k m.x.v m.va m.vc _) U ?_;rintro v w ⟨rfl,rfl⟩;refine Ab (Bc (⟨H.get at1,H.get at0⟩) (AC U U ?_));refine Fk U U (Bg U (AD Mh U (AU (Bf (.int _ _) Hv U U U H at1 (by(simp;done)) ?_))));rintro w H;refine Ab (De U (B1 (Aa ?_)));refine⟨(⟨a46,c46,m.x.v⟩,o9,ent a46 5 f46),rfl,trivial,rfl,hM3,fun _=>⟨fun w' hw'=>OS.rdB O hw',?_,O.le⟩,?_⟩
    .exact Ctx.ent_new H (hSL _ _) O
    .rw[hnew];exact H
   .intro hd;replace hd:=C0 hd;have hd':m.x.d=true:=by simpa using hd
    have hnew:HA m.x=0:=by unfold HA;rw[if_pos hd']
    refine Ap (Aa ?_);exact⟨(⟨none,0,m.x.v⟩,o5,[]),rfl,trivial,rfl,by unfold Uf;rw[if_pos hd'];exact hM1,(fun h=>by rw[hd']at h;cases h),by rw[hnew,Int.add_zero];exact H⟩
  .rintro⟨s,o9,E⟩ j37 w ⟨hsv,hM3,hR,H⟩;dsimp only at hsv hM3 hR H;refine Av (Am U (A8 U (Af QJ U (AH Abo U H at1 U (Cd U (RT (m:=mi t) (n:=m.x.k) U Sn (Fx F7) zv_3 U U H at3 hM2 ?_))))));rw[show(BI (mi t) m.x.k).getD (.int .i64 0)=.int .i64 ((BI t m.x.k).getD 0)by(rw[Fh (f:=Value.int .i64)];cases BI t m.x.k <;> rfl)];refine A7 U U (HD (.int .i64 ((BI t m.x.k).getD 0+1)) U Sn (Fx F7) U U U H at3 hM2 ?_);rw[Oy (f:=Value.int .i64)];rintro o10 w hM4 H9;have H:Ctx w0 [bs,m1,m2] w ([(b3,Bl 56 (CO m)),(bs,Bl CU (CN vd vj vp vt gen root m1 m2 (n - Jk l m.x.k+HA m.x) dead)),(m1,o9),(m2,o10)]++E):=H9;refine Ab (Ih U U ?_);refine⟨rfl,s,o9,o10,H.left.drop 1,⟨hM3,fun p hp=>?_,fun p hp=>?_⟩,hsv,hM4⟩
   .rcases Yr hp with⟨hd,rfl⟩|hp
    .obtain⟨h1,h2,h3⟩:=hR hd;exact⟨⟨h1 _ fun x hx=>H.blk x (qax _ hx),h2.imp id fun h hMx=>by have h8:(adr s.a).block<w0.heap.size:=hMb _ hMx;omega⟩,h3⟩
    .have h:=K.ok p hp;exact⟨⟨Rdx.read h.1 H.ext hS,h.1.2⟩,h.2⟩
   .rcases Yr hp with⟨hd,rfl⟩|hp
    .exact⟨hf.1,by rw[hsv];exact hf.2⟩
    .exact K.few p hp
section
variable {w:World}{bs m1 m2 gen:Nat}{n root:Int}{dead:Bool}{vd vj vp vt:Value}
abbrev Acr(dead:Bool):Int:=if dead=true then 8 else 0
theorem GP(hs:w.heap[bs]?=some (Bl CU (CN vd vj vp vt gen root m1 m2 n dead))):Ret prog 42 #[ptr bs] w fun v w'=>v=.int .i64 (Acr dead)/\w=w':=by
 obtain⟨w0,rfl⟩:=qD w;refine A6 (fn:=f42) func42 U [ptr bs] U (Ad (Ac U (qA (Aq (AE (Ad (Am U (BW Ss U ?_))))))));refine An U (qA (Bz U (Ad (Am U (A8 U (Af Abx U (Be Gf U ((by rw[Ar hs];rfl)) ?_)))))));refine An U (qA (Au _ U ?_ ?_))
 .intro h1;refine Ad (Ac U (qA (Ax (AL (Ao (AG (v:=(.int _ _)) U U U ?_))))));exact⟨qab (Value.int .i64) (if_pos h1).symm,rfl⟩
 .intro h1;refine Ap (AF (Aa (Ad (Ac U (qA (Ax (AG (v:=(.int _ _)) U U U ?_)))))));exact⟨qab (Value.int .i64) (if_neg (by simp[h1])).symm,rfl⟩
theorem Vp(hs:w.heap[bs]?=some (Bl CU (CN vd vj vp vt gen root m1 m2 n dead))):Ret prog 25 #[ptr bs] w fun v w'=>v=.int .i64 (if dead=true then 0 else n)/\w=w':=by
 obtain⟨w0,rfl⟩:=qD w;refine A6 (fn:=f25) func25 U [ptr bs] U (Ad (Ac U (qA (Aq (Ad (Am U (Ai qB (GP hs) U ?_)))))));rintro v w ⟨rfl,rfl⟩;refine Ba U U (qA (Au _ U ?_ ?_))
 .intro h1;replace h1:=Bu h1;have hd:dead=true:=by cases dead;exact absurd rfl h1;rfl
  refine Ad (Ac U (qA (Ax (Ao (AG (v:=(.int _ _)) U U U ?_)))));exact⟨qab (Value.int .i64) (if_pos hd).symm,rfl⟩
 .intro h1;replace h1:=Bv h1;have hd:¬dead=true:=fun h=>by rw[h]at h1;cases h1
  refine Ap (Aa (Ad (Am U (A8 U (Af Mh U (Be DW U ((by rw[Ar hs];rfl)) ?_))))));refine Ac U (qA (Ax (AG (v:=(.int _ _)) U U U ?_)));exact⟨qab (Value.int .i64) (if_neg hd).symm,rfl⟩
theorem Ys(H:Ctx w [bs] w [(bs,Bl CU (CN vd vj vp vt gen root m1 m2 n dead))])(x:Int):Ret prog 47 #[ptr bs,.int .i64 x] w fun v w'=>v=.int .i64 x/\Ctx w [bs] w' [(bs,Bl CU (CN vd vj vp vt gen root m1 m2 n (!decide (x=0))))]:=by
 obtain⟨w0,rfl⟩:=qD w;refine A6 (fn:=f47) func47 U [ptr bs,.int .i64 x] U (Ad (Ac U (qA (Ad (Am U (Ae U (Ba U U (A8 U (Af Abx U (Bf (.bool _) Ah8 U U U H at0 (by(simp;done)) ?_))))))))));rintro w H;refine qA (Ad (Ae U (Ac U (qA (Ax (AG (v:=(.int _ _)) U U U ?_))))));exact⟨rfl,H⟩
def LA(l:List (Byt × Sv))(k:Byt):Byt:=((BI l k).map Sv.v).getD []
theorem Amp{o1:Obj}{M:Mut}{l:List (Byt × Sv)}(hs:w.heap[bs]?=some (Bl CU (CN vd vj vp vt gen root m1 m2 n false)))(h1m:w.heap[m1]?=some o1)(K:KvAt w M l o1)(a:Option Addr)(c:Nat)(k:Byt)(Rk:Rd w a 1 B8 k) :
  Ret prog 26 #[ptr bs,.slice a k.length c] w fun v w'=>∃a' c',v=.tuple #[.slice a' (LA l k).length c',.bool (BI l k).isSome,.int .i64 0]/\Rd w' a' 1 B8 (LA l k)/\Ext [] w w':=by
 obtain⟨w0,rfl⟩:=qD w
 obtain⟨A,C,hz,hR,hlen⟩:∃A C,((BI l k).map Sv.enc).getD (.slice none 0 0)=.slice A (LA l k).length C/\Rd w0 A 1 B8 (LA l k)/\(LA l k).length<=128:=by
  unfold LA
  cases hq:BI l k with
  |none=>exact⟨none,0,rfl,Rd.nil,by simp⟩
  |some s=>exact⟨s.a,s.c,rfl,(K.ok _ (EU hq)).1.1,(K.few _ (EU hq)).2⟩
 refine A6 (fn:=f26) func26 U [ptr bs,.slice a k.length c] U (Ad (Ak U (An U (Ac U (qA (Aq (Ad (Am U (Ai qB (GP hs) U ?_)))))))));rintro v w ⟨rfl,rfl⟩;have H:=Ctx.start w0 [];refine Ac U (qA (Ad (Ae U (Ba U U (qA (Au _ U ?_ ?_))))))
 .intro h1;replace h1:=Bu h1;exact absurd U h1
 .intro h1;replace h1:=Bv h1;refine Ap (Aa (J7 (fun x=>x=_) mixed U ?_));refine GZ U (Eo U (BP HF U (HZ ML U (by rintro _ rfl;exact((by rw[Ar (w:=World.drew w0) hs];rfl))) ?_)));refine Gm U (Zw U AX GR F7 U (by rintro _ rfl;exact Rk.ext0 (Ext.drew [] _)) ?_);refine WW k U NO (Fx F7) Sw U U (by rintro _ rfl;exact h1m) K.m ?_;rw[Fh (f:=Sv.enc),hz,qe6];refine Alj U U (Uv U U U (Uv U U U (U0 U U (Adp U U (Jo ?_)))));rintro _ rfl;replace H:=H.drew;refine Ad (Aj U (Ai qB (JM A C _ (LA l k) _ (hR.ext0 (Ext.drew [] _)) U) U ?_));rintro v w ⟨F,-⟩;obtain⟨a24,c24,rfl,R24,hc24⟩:=Fresh.rdB F;refine AA U (Ak U (An U (Ac U (qA (Ax (CX (v1:=(.slice _ _ _)) (v2:=(.bool _)) (v3:=(.int _ _)) U U U U U ?_))))));exact⟨a24,c24,rfl,R24,(Ext.drew [] _).trans F.ext⟩
end
structure Stp where
 op:Int
 gen:Nat
 ba:Option Addr
 bc:Nat
 b:Byt
 n:Int
 pos:Nat
 by':UInt8
 pa:Option Addr
 pc:Nat
 picks:List Int
abbrev I64:Int->List Value:=fun x=>[.int .i64 x]
def Stp.enc(x:Stp):List Value:=[.int .i64 x.op,.int .u64 (x.gen:Int),.slice x.ba x.b.length x.bc,.int .i64 x.n,.int .u16 (x.pos:Int),bv x.by',.slice x.pa x.picks.length x.pc]
structure Stp.Ok(w:World)(x:Stp):Prop where
 rb:Rd w x.ba 1 B8 x.b
 rp:Rd w x.pa 1 I64 x.picks
 cb:x.b.length<=x.bc
 cp:x.picks.length<=x.pc
 mb:x.b.length<=140737488351232
 mp:x.picks.length<=140737488351232
 gen:x.gen<18446744073709551616
 n1 : -9223372036854775808<=x.n
 n2:x.n<=9223372036854775807
 pos:x.pos<65536
 picks:∀i∈x.picks,-9223372036854775808<=i/\i<=9223372036854775807
def sumH(l:List Stp):Nat:=(l.map fun x=>x.b.length+x.picks.length).sum
def heavyB(l:List Stp):Bool:=decide (40<l.length) || decide (20000<sumH (l.take 100))
def Amq(x:Stp):Byt:=if x.b.length<=497 then DJ x.gen x.b else zeros
def rawB(x:Stp):Byt:=(Amq x).modify (x.pos % 512) fun c=>c ^^^ x.by'
structure Two(w0 w:World)(bd rd:Nat)(A B:Dev)(F G:Nat->Prop):Prop where
 ext:Ext [] w0 w
 dev:DevAt w bd A F
 ref:RefAt w rd B G
 f:∀x,F x->w0.heap.size<=x/\x<w.heap.size
 g:∀x,G x->w0.heap.size<=x/\x<w.heap.size
 fg:∀x,F x->¬G x
structure Still(F G F' G':Nat->Prop)(w w':World):Prop where
 blk:∀b,b<w.heap.size->¬F b->¬G b->w'.heap[b]?=w.heap[b]?
 fg:∀b,b<w.heap.size->¬F b->¬G b->¬F' b/\¬G' b
 size:w.heap.size<=w'.heap.size
def Free(w:World)(F G:Nat->Prop)(b:Nat):Prop:=b<w.heap.size/\¬F b/\¬G b
theorem Free.go{w w':World}{F G F' G':Nat->Prop}{b:Nat}(h:Free w F G b)(s:Still F G F' G' w w'):Free w' F' G' b :=
 ⟨qas h.1 s.size,s.fg b h.1 h.2.1 h.2.2⟩
theorem Rd.same{w w':World}{α:Type}{a:Option Addr}{s:Nat}{enc:α->List Value}{l:List α}(R:Rd w a s enc l)(h:w'.heap[(adr a).block]?=w.heap[(adr a).block]?):Rd w' a s enc l :=
 ⟨R.some',fun i x hx j v hv hj=>by
  have h1:=R.cell i x hx j v hv hj;unfold World.cell? at h1 |-
  rw[h];exact h1⟩
def RdF{α:Type}(w:World)(F G:Nat->Prop)(a:Option Addr)(s:Nat)(enc:α->List Value)(l:List α):Prop:=Rd w a s enc l/\(l=[]\/Free w F G (adr a).block)
theorem RdF.go{α:Type}{w w':World}{F G F' G':Nat->Prop}{a:Option Addr}{s:Nat}{enc:α->List Value}{l:List α}(h:RdF w F G a s enc l)(t:Still F G F' G' w w'):RdF w' F' G' a s enc l:=by
 obtain⟨R,hn⟩:=h
 rcases hn with rfl|hn
 .exact⟨Rd.nil,.inl rfl⟩
 .exact⟨Rd.same R (t.blk _ hn.1 hn.2.1 hn.2.2),.inr (hn.go t)⟩
def BlF(w:World)(F G:Nat->Prop)(b:Nat)(o:Obj):Prop:=w.heap[b]?=some o/\Free w F G b
theorem BlF.go{w w':World}{F G F' G':Nat->Prop}{b:Nat}{o:Obj}(h:BlF w F G b o)(t:Still F G F' G' w w'):BlF w' F' G' b o :=
 ⟨by rw[t.blk _ h.2.1 h.2.2.1 h.2.2.2];exact h.1,h.2.go t⟩
theorem Still.call{w w':World}{F G:Nat->Prop}(hx:Ext [] w w'):Still F G F G w w':=⟨fun b hb _ _=>hx.block b hb (by simp),fun _ _ h1 h2=>⟨h1,h2⟩,hx.size⟩
theorem rd_lt{w:World}{α:Type}{a:Option Addr}{s:Nat}{enc:α->List Value}{l:List α}(R:Rd w a s enc l)(hs:0<s)(he:∀x∈l,(enc x).length=s):l=[]\/(adr a).block<w.heap.size:=by
 cases l with
 |nil=>exact .inl rfl
 |cons x l =>
  obtain⟨v,hv⟩:=AO (l:=enc x) (i:=0) (h:=by have:=he x (qaf ..);omega);have h9:=World.block_lt_of_cell? w ⟨(adr a).block,_,none⟩ (R.cell 0 x rfl 0 _ hv hs);exact .inr h9
section
variable {w0 w w':World}{bd rd:Nat}{A B A' B':Dev}{F G:Nat->Prop}
theorem Two.call(T:Two w0 w bd rd A B F G)(hx:Ext [] w w'):Two w0 w' bd rd A B F G :=
 ⟨T.ext.trans hx,T.dev.keep0 hx,T.ref.keep0 hx,fun x h=>by have:=T.f x h;have:=hx.size;omega,fun x h=>by have:=T.g x h;have:=hx.size;omega,T.fg⟩
theorem Two.devs(T:Two w0 w bd rd A B F G)(h:DevAt w' bd A' F)(t:Turn F w w'):Two w0 w' bd rd A' B F G/\Still F G F G w w':=by
 have h1:=t.size;have hx0:=t.new T.ext fun x h=>(T.f x h).1;obtain⟨S,hS,hx⟩:=t;exact⟨⟨hx0,h,T.ref.keep hx fun x h=>T.fg x (hS x h),fun x h=>by have:=T.f x h;omega,fun x h=>by have:=T.g x h;omega,T.fg⟩,⟨fun b hb hF _=>hx.block b hb fun h=>hF (hS b h),fun b _ hF hG=>⟨hF,hG⟩,h1⟩⟩
theorem Two.old{α:Type}{a:Option Addr}{s:Nat}{enc:α->List Value}{l:List α}(T:Two w0 w bd rd A B F G)(R:Rd w0 a s enc l)(hs:0<s)(he:∀x∈l,(enc x).length=s):RdF w F G a s enc l :=
 ⟨R.ext0 T.ext,(rd_lt R hs he).imp id fun h=>⟨qas h T.ext.size,fun h'=>by have:=T.f _ h';omega,fun h'=>by have:=T.g _ h';omega⟩⟩
theorem Two.newer(T:Two w0 w bd rd A B F G){b:Nat}(h1:w.heap.size<=b)(h2:b<w'.heap.size):Free w' F G b :=
 ⟨h2,fun h=>by have:=T.f _ h;omega,fun h=>by have:=T.g _ h;omega⟩
end
theorem Stp.one(x:Stp):∀v∈x.enc,Bi v=true:=fun v hv=>by
 simp only[Stp.enc,bv,qac,qam,or_false]at hv
 rcases hv with rfl|rfl|rfl|rfl|rfl|rfl|rfl <;> rfl
theorem Stp.Ok.ext{w w':World}{x:Stp}(h:x.Ok w)(hx:Ext [] w w'):x.Ok w':=⟨h.rb.ext0 hx,h.rp.ext0 hx,h.cb,h.cp,h.mb,h.mp,h.gen,h.n1,h.n2,h.pos,h.picks⟩
def C1(b:Byt)(i:Nat):Byt:=(b.drop (480*i)).take 480
theorem Nu(b:Byt)(i:Nat):(C1 b i).length=min 480 (b.length - 480*i):=by rw[C1,qa0,qbg]
theorem Rd.boxX{w w':World}{a a2:Option Addr}{l:Byt}{b t n c:Nat}(R:Rd w a 1 B8 l)(hb:w.heap[b]?=some (Bl t [.slice a2 n c]))(he:Ext [b] w w'):Rd w' a 1 B8 l:=by
 cases l with
 |nil=>exact Rd.nil
 |cons x l =>
  refine R.ext he fun h=>?_;have h1:=R.cell 0 x rfl 0 (bv x) rfl (by decide);rw[qaa.1 h,Ar hb]at h1;have h2:=qad h1;simp[bv]at h2
theorem Amr(a:Option Addr)(c i s:Nat):(adr (EL a c i s)).block=(adr a).block:=by
 unfold EL;split
 .rfl
 .cases a with
  |none=>rfl
  |some p =>
   obtain⟨b,o,sp⟩:=p;show(adr (some (Addr.add ⟨b,o,sp⟩ (i*s)))).block=b;unfold Addr.add
   by_cases h:i*s=0 <;> simp[h,adr]
theorem Aaj{w:World}{l bx c:Nat}{a:Option Addr}{b:Byt}(hx:w.heap[bx]?=some (Bl 24 [.slice a b.length c]))(R:Rd w a 1 B8 b)(hc:b.length<=c)(hm:b.length<=100000000)(J:Nat->World->Prop)(K:World->Prop)(hJ0:J 0 w)(hst:∀i w' w'',J i w'->Ext [bx] w' w''->J i w'')(hround:∀i ai ci w',i<blk b.length - 1->J i w'->Rd w' ai 1 B8 (C1 b i)->(adr ai).block=(adr a).block->(∃a' n' c',w'.heap[bx]?=some (Bl 24 [.slice a' n' c'])) ->
   Go.GV.YieldAt prog l [.int .i64 (i:Int),.slice ai (C1 b i).length ci] w' fun u w''=>w''.heap[bx]?=w'.heap[bx]? /\ (b=[]\/w''.heap[(adr a).block]?=w'.heap[(adr a).block]?)/\∃t,u=.bool t/\(t=true->J (i+1) w'')/\(t=false->K w'')) :
  Ret prog 142 #[.func (.yield l) #[] #[],ptr bx] w fun _ w'=>J (blk b.length - 1) w'\/K w':=by
 obtain⟨w0,rfl⟩:=qD w;have hb2:=Et b.length;have hb3:=PB b.length;refine A6 (fn:=f142) func142 U [.func (.yield l) #[] #[],.pointer (some ⟨bx,0,none⟩)] U ?_;refine Ad (Be B4 U (Ar hx _) ?_);refine AP AX U (Ai qB (Gw (b.length:Int) _) U ?_);rintro v w ⟨rfl,rfl⟩;rw[Je];refine BB U U ?_;refine Ae U (qA (AE (B7 67108376 (α:=Nat × Option Addr × Nat) (fun s=>[(9,.int .i64 s.1)]) (fun s w'=>s.1<=blk b.length - 1/\J s.1 w'/\w'.heap[bx]?=some (Bl 24 [.slice s.2.1 (b.drop (480*s.1)).length s.2.2])/\Rd w' s.2.1 1 B8 (b.drop (480*s.1))/\(b.drop (480*s.1)).length<=s.2.2/\(adr s.2.1).block=(adr a).block) (fun s=>blk b.length - 1 - s.1) (0,a,c) U ?_ ?_ ?_)))
 .exact⟨rfl,trivial⟩
 .exact⟨qak _,hJ0,hx,R,hc,rfl⟩
 .rintro⟨i,ai,ci⟩ j w ⟨hi,hJ,hx,R,hc,ha⟩;dsimp only at hi hJ hx R hc ha;dsimp only;refine Ad (Bn U U (qA (Aq (Au _ U ?_ ?_))))
  .intro h1;replace h1:=AV h1;have hcl:=Nu b i;have hdl:(b.drop (480*i)).length=b.length - 480*i:=qbg;refine Ap (Aa (Aq (AE (Ad (Ae U (Ac U (qA (Ad (Be B4 U (Ar hx _) ?_)))))))));refine AP AX U (VL U U U ?_);rw[show min (480:Int) ((b.drop (480*i)).length:Int)=((C1 b i).length:Int)by omega];refine Ac U (qA (Aq (Ad (Ee U (.func _ _ _) U ?_))));refine Ae U (Be B4 U (Ar hx _) ?_);refine Ae U (Ei AX CT U U ?_);refine RO U U (hround i ai ci w (by omega) hJ (R.take 480) ha ⟨_,_,_,hx⟩) U ?_;rintro _ w5 ⟨hbx5,hba5,t,rfl,hT,hF⟩;refine BX U (qA (Au _ U ?_ ?_))
   .intro h2;replace h2:=Cz h2;refine Ax (Ao (AL (Ao (Ao (AL (Agh U U ?_))))));exact .inr (hF (by simpa using h2))
   .intro h2;replace h2:=C0 h2;have hx5:w5.heap[bx]?=some (Bl 24 [.slice ai (b.drop (480*i)).length ci]):=hbx5.trans hx
    have R5:Rd w5 ai 1 B8 (b.drop (480*i)):=by
     rcases hba5 with h0|h0
     .rw[h0];simp only[List.drop_nil];exact Rd.nil
     .exact Rd.same R (by rw[ha];exact h0)
    have H:=Ctx.start1 hx5;refine Ap (Aa (Av (AH B4 U H at0 U (Ae U (F8 AX CT U U ?_)))));refine Bf (.slice _ _ _) Gh U U U H at0 (by(simp;done)) ?_;rintro w H;refine Ab (AF (Aa (Av (A7 U U ?_))));refine Ae U (qA ?_);have hnl:(b.drop (480*(i+1))).length=b.length - 480*(i+1):=qbg;have Rc:=R5.cut (C1 b i).length ci hc
    have hde:(b.drop (480*i)).drop (C1 b i).length=b.drop (480*(i+1)):=by
     rw[qdq]
     by_cases h480:480<=b.length - 480*i
     .congr 1;omega
     .rw[qd3 (by omega),qd3 (by omega)]
    rw[hde]at Rc;refine⟨(i+1,EL ai ci (C1 b i).length 1,ci - (C1 b i).length),rfl,⟨rfl,trivial⟩,⟨by dsimp only;omega,hst _ _ _ (hT (by simpa using h2)) H.ext,?_,Rd.boxX Rc hx5 H.ext,by dsimp only;omega,(Amr ..).trans ha⟩,by dsimp only;omega⟩;dsimp only;rw[H.get at0,show(b.drop (480*(i+1))).length=(b.drop (480*i)).length - (C1 b i).length by omega];rfl
  .intro h1;replace h1:=AW h1;have hib:i=blk b.length - 1:=by omega
   subst hib;refine B3 (Ay (Ay (Bb (Ih U U ?_))));exact .inl hJ
theorem Ae5(a:Option Addr)(n c:Nat)(w:World):Ret prog 117 #[.slice a n c] w fun v w'=>∃bx,v=.func (.func 142) #[] #[ptr bx]/\w'.heap[bx]?=some (Bl 24 [.slice a n c])/\w.heap.size<=bx/\Ext [] w w':=by
 obtain⟨w0,rfl,H⟩:=qE w;refine A6 (fn:=f117) func117 U [.slice a n c] U (Ad (Cn _ (.slice _ _ _) U U H ?_));rintro b1 w - H;refine El U .nilFunc U (qA (Ad (CG [.pointer _] U (El U (.func _ _ _) U ?_))));refine qA (Ax (AG (v:=(.func _ _ _)) U U U ?_));exact⟨b1,rfl,H.get at0,(H.own _ (qaf ..)).elim (fun h=>by cases h) id,H.ext⟩
theorem OD{P:Program}{e:Env}{w:World}{fn:Func}{R:Value->World->Prop}{a:Tmp}{t:TypeId}{p:Addr}(hr:fn.results=#[.cell a t])(ha:e.g a=.pointer (some p))(h:Marks e.ds w fun w'=>∃v,(loadVar t p).run P w'=.ok v w'/\R v w'):Abk P fn R .ret e w :=
 Marks.mono (fun w ⟨v,hv,h⟩ tmps ht=>by
  have h1:=(ht a).trans ha;rw[qbt]at h1
  exact⟨v,by simp[results,hr,h1,asAddr,hv],h⟩) h
def wrP(A:Dev)(J:Jr)(b:Byt):Nat->Int × Dev
 |0=>(0,A)
 |i+1=>if(wrP A J b i).1=0 then(Ow (wrP A J b i).2 J i 1 (CY J.seq i (C1 b i)),Kv (wrP A J b i).2 J i 1 (CY J.seq i (C1 b i)))else wrP A J b i
theorem Yt{A:Dev}{J:Jr}{b:Byt}{i:Nat}(h:(wrP A J b i).1≠0):∀n,i<=n->wrP A J b n=wrP A J b i
 |0,hn=>by rw[show i=0 by omega]
 |n+1,hn=>by
  by_cases hi:i=n+1
  .rw[hi]
  .have ih:=Yt h n (by omega);have h9:wrP A J b (n+1)=if(wrP A J b n).1=0 then(Ow (wrP A J b n).2 J n 1 (CY J.seq n (C1 b n)),Kv (wrP A J b n).2 J n 1 (CY J.seq n (C1 b n)))else wrP A J b n:=rfl;rw[h9,if_neg (by rw[ih];exact h),ih]
theorem OE{A:Dev}{J:Jr}{b:Byt}{m:Nat}(h:Few A m):∀i,Few (wrP A J b i).2 (m+i)
 |0=>h
 |i+1=>by
  unfold wrP
  split
  .exact Hy (OE h i) _ _
  .exact(OE h i).mono (by omega)
def CZ(A:Dev)(J:Jr)(b:Byt):Int × Dev :=
 if(wrP A J b (blk b.length - 1)).1=0 then
  (if Du (wrP A J b (blk b.length - 1)).2=0 then
   (if Ow (Cp (wrP A J b (blk b.length - 1)).2) J (blk b.length - 1) 2 (Hk J.seq b)=0 then
    (Du (Kv (Cp (wrP A J b (blk b.length - 1)).2) J (blk b.length - 1) 2 (Hk J.seq b)),Cp (Kv (Cp (wrP A J b (blk b.length - 1)).2) J (blk b.length - 1) 2 (Hk J.seq b)))
   else(Ow (Cp (wrP A J b (blk b.length - 1)).2) J (blk b.length - 1) 2 (Hk J.seq b),Kv (Cp (wrP A J b (blk b.length - 1)).2) J (blk b.length - 1) 2 (Hk J.seq b)))
  else(Du (wrP A J b (blk b.length - 1)).2,Cp (wrP A J b (blk b.length - 1)).2))
 else wrP A J b (blk b.length - 1)
structure Dv(w0 w:World)(bd:Nat)(A:Dev)(F F':Nat->Prop)(L:List (Nat × Obj)):Prop where
 dev:DevAt w bd A F'
 turn:Turn F w0 w
 own:∀x,F' x->F x\/(w0.heap.size<=x/\x<w.heap.size)
 lt:∀x,F' x->x<w.heap.size
 blk:∀x∈L,w.heap[x.1]?=some x.2
 off:∀x∈L,¬F' x.1
theorem Dv.step{w0 w w':World}{bd:Nat}{A A':Dev}{F F':Nat->Prop}{L:List (Nat × Obj)}(D:Dv w0 w bd A F F' L)(h:DevAt w' bd A' (grow F' w w'))(t:Turn F' w w'):Dv w0 w' bd A' F (grow F' w w') L:=by
 have h1:=t.size;have h0:=D.turn.size;have ht:Turn F w0 w':=D.turn.trans t fun x h=>(D.own x h).elim .inl fun h => .inr h.1;obtain⟨S,hS,hx⟩:=t;refine⟨h,ht,fun x hx=>?_,fun x hx=>?_,fun x hx'=>?_,fun x hx' hg=>?_⟩
 .rcases hx with hx|hx
  .rcases D.own x hx with h|h
   .exact .inl h
   .exact .inr ⟨h.1,by omega⟩
  .exact .inr ⟨by omega,hx.2⟩
 .rcases hx with hx|hx
  .have:=D.lt x hx;omega
  .exact hx.2
 .rw[hx.block x.1 (Al (D.blk x hx')) fun h=>D.off x hx' (hS _ h)];exact D.blk x hx'
 .rcases hg with hg|hg
  .exact D.off x hx' hg
  .have:=Al (D.blk x hx');omega
theorem Dv.same{w0 w w':World}{bd:Nat}{A A':Dev}{F F':Nat->Prop}{L:List (Nat × Obj)}(D:Dv w0 w bd A F F' L)(h:DevAt w' bd A' F')(t:Turn F' w w'):Dv w0 w' bd A' F F' L:=by
 have h1:=t.size;have ht:Turn F w0 w':=D.turn.trans t fun x h=>(D.own x h).elim .inl fun h => .inr h.1;obtain⟨S,hS,hx⟩:=t
 exact⟨h,ht,fun x hx=>(D.own x hx).elim .inl fun h => .inr ⟨h.1,by omega⟩,fun x hx=>by have:=D.lt x hx;omega,fun x hx'=>by
  rw[hx.block x.1 (Al (D.blk x hx')) fun h=>D.off x hx' (hS _ h)];exact D.blk x hx',D.off⟩
theorem Dv.call{w0 w w':World}{bd:Nat}{A:Dev}{F F':Nat->Prop}{L:List (Nat × Obj)}(D:Dv w0 w bd A F F' L)(hx:Ext [] w w'):Dv w0 w' bd A F F' L:=D.same (D.dev.keep0 hx) (.of0 hx)
theorem Dv.other{w0 w w':World}{bd:Nat}{A:Dev}{F F':Nat->Prop}{L L':List (Nat × Obj)}(D:Dv w0 w bd A F F' L){b:Nat}(hx:Ext [b] w w')(hb:w0.heap.size<=b)(hn:¬F' b)(hL:∀x∈L',w'.heap[x.1]?=some x.2/\¬F' x.1):Dv w0 w' bd A F F' L':=by
 have h1:=hx.size;refine⟨D.dev.keep hx fun x h=>by rw[qaa.1 h];exact hn,D.turn.trans (.of hx (S:=[b]) (F:=fun x=>x=b) fun x h=>qaa.1 h) fun x h => .inr (by rw[h];exact hb),fun x hx=>(D.own x hx).elim .inl fun h => .inr ⟨h.1,by omega⟩,fun x hx=>by have:=D.lt x hx;omega,fun x h=>(hL x h).1,fun x h=>(hL x h).2⟩
theorem Dv.sub{w0 w:World}{bd:Nat}{A:Dev}{F F':Nat->Prop}{L L':List (Nat × Obj)}(D:Dv w0 w bd A F F' L)(h:∀x∈L',x∈L):Dv w0 w bd A F F' L':=⟨D.dev,D.turn,D.own,D.lt,fun x hx=>D.blk x (h x hx),fun x hx=>D.off x (h x hx)⟩
theorem Aak{Q:Exit->Env->World->Prop}{e:Env}{w:World}{j:Option Code}(hj:j=some .ret)(h:Q .ret e w):OQ Q e w j:=by subst hj;exact h
theorem Kw{w0 w:World}{bd bj b4 Db:Nat}{A:Dev}{F F':Nat->Prop}{L:List (Nat × Obj)}{e:Int}{oj:Obj}{d:Deferred}(D:Dv w0 w bd A F F' ((b4,Bl 28 [.int .i64 e])::L))(hd:d.target=.collected Db)(hDm:(Db,.deferred (some []))∈L)(hDb:w0.heap.size<=Db)(hjm:(bj,oj)∈L)(hjD:bj≠Db)(h4D:b4≠Db) :
  Marks [d] w fun w'=>∃v,(loadVar 28 ⟨b4,0,none⟩).run prog w'=.ok v w'/\(v=.int .i64 e/\∃F',Dv w0 w' bd A F F' [(bj,oj)]):=by
 refine⟨Db,hd,D.blk _ (qai _ hDm),?_⟩;have hx:=Ext.setB w Db (.deferred none)
 have h4:(w.putObj Db (.deferred none)).heap[b4]?=some (Bl 28 [.int .i64 e]):=by
  rw[hx.block b4 (Al (D.blk _ (qaf ..))) (by simpa using h4D)];exact D.blk _ (qaf ..)
 refine⟨_,Hp EW (Ar h4 0),rfl,F',D.other hx hDb (D.off _ (qai _ hDm)) fun x hx'=>?_⟩;rw[qaa.1 hx'];exact⟨by rw[hx.block bj (Al (D.blk _ (qai _ hjm))) (by simpa using hjD)];exact D.blk _ (qai _ hjm),D.off _ (qai _ hjm)⟩
theorem Ae6{w:World}{bj bd:Nat}{J:Jr}{A:Dev}{F:Nat->Prop}(h:w.heap[bj]?=some (Bl TJ (JB bd J)))(hJ:J.Ok)(a:Option Addr)(c n:Nat)(b:Byt)(R:Rd w a 1 B8 b)(hn:b.length=n)(hm:n<=900000)(hc:n<=c)(hlt:∀x,F x->x<w.heap.size)(hFj:¬F bj)(hFa:b=[]\/¬F (adr a).block){mx:Nat}(hfew:Few A mx)(hmx:mx<=1000000000)(DA:DevAt w bd A F) :
  Ret prog 87 #[ptr bj,.slice a n c] w fun v w'=>v=.int .i64 (CZ A J b).1/\∃F',Dv w w' bd (CZ A J b).2 F F' [(bj,Bl TJ (JB bd J))]:=by
 subst hn;obtain⟨w0,rfl,H⟩:=qE w;have hjl:=Al h;have hbl:=Rd.lt8 R;have hb2:=Et b.length;have hb3:=PB b.length;refine JI (fn:=Tryz.f87) func87 U [.pointer (some ⟨bj,0,none⟩),.slice a b.length c] U ?_;refine Ad (Cn _ (.pointer _) U U H ?_);rintro b2 w - H;refine Bj Xr H ?_;rintro b4 w - H;refine qA (Aq (Ad (Aj U (Ai qB (Ae5 a b.length c _) U ?_))));rintro v w ⟨bx,rfl,hbx,hbxn,hx11⟩;refine qA (AE ?_);have ho2:w0.heap.size<=b2:=(H.own _ (qai _ (qaf ..))).elim (fun h=>by cases h) id;have ho4:w0.heap.size<=b4:=(H.own _ (qaf ..)).elim (fun h=>by cases h) id;have hl2:=H.lt at1;have hl4:=H.lt at0;have hb24:=H.ne at0 at1 (by decide);replace H:=H.call hx11;have hbxL:=Al hbx;refine HK U qB ?_;intro fn tmps hts htm Db l w2 hDb hl hx2 hD hrec
 obtain⟨lo,hlo,hrec'⟩:∃lo,lo=_/\w2.heap[l]?=some (.loop lo):=⟨_,rfl,hrec⟩;have H2:=H.call hx2;have hbx2:w2.heap[bx]?=some (Bl 24 [.slice a b.length c]):=by rw[hx2.block bx hbxL (by simp)];exact hbx
 have hx02:Ext [] w0 w2:=H2.ext;have hnew:∀x,w0.heap.size<=x->¬F x:=fun x hx hF=>by have:=hlt x hF;omega
 have hj2:w2.heap[bj]?=some (Bl TJ (JB bd J)):=by rw[hx02.block bj hjl (by simp)];exact h
 obtain⟨L,hL⟩:=qD ([(bj,Bl TJ (JB bd J)),(b2,Bl 81 [ptr bj]),(Db,.deferred (some []))]:List (Nat × Obj))
 have D2:Dv w0 w2 bd A F F ((l,.loop lo)::(b4,Bl 28 [.int .i64 0])::L):=by
  refine⟨DA.keep0 hx02,.of0 hx02,fun x h => .inl h,fun x hx=>by have:=hlt x hx;have:=hx02.size;omega,fun x hx=>?_,fun x hx=>?_⟩
  .rw[hL]at hx;simp only[qac,qam,or_false]at hx
   rcases hx with rfl|rfl|rfl|rfl|rfl
   .exact hrec'
   .exact H2.get at0
   .exact hj2
   .exact H2.get at1
   .exact hD
  .rw[hL]at hx;simp only[qac,qam,or_false]at hx;have h1:=hx11.size;have h2:=H.ext.size
   rcases hx with rfl|rfl|rfl|rfl|rfl
   .exact hnew _ (by dsimp only;omega)
   .exact hnew _ ho4
   .exact hFj
   .exact hnew _ ho2
   .exact hnew _ (by dsimp only;omega)
 have hsz11:=hx11.size;have hszH:=H.ext.size
 have hneX:∀(o1 o2:Obj),∀x∈(l,o1)::(b4,o2)::L,x.1≠bx:=by
  intro o1 o2 x hx;rw[hL]at hx;simp only[qac,qam,or_false]at hx
  rcases hx with rfl|rfl|rfl|rfl|rfl <;> (dsimp only;omega)
 refine Ret.mono (Aaj (l:=l) hbx2 (R.ext0 hx02) hc (by omega)
  (fun i w'=>(wrP A J b i).1=0/\∃F',Dv w0 w' bd (wrP A J b i).2 F F' ((l,.loop lo)::(b4,Bl 28 [.int .i64 0])::L)/\¬F' bx/\bx<w'.heap.size)
  (fun w'=>(wrP A J b (blk b.length - 1)).1≠0/\∃F',Dv w0 w' bd (wrP A J b (blk b.length - 1)).2 F F' ((l,.loop { lo with state := .done,pending:=some .ret })::(b4,Bl 28 [.int .i64 (wrP A J b (blk b.length - 1)).1])::L)) ?_ ?_ ?_) ?_
 .exact⟨rfl,F,D2,hnew _ (by have h1:=hx11.size;have h2:=H.ext.size;omega),Al hbx2⟩
 .rintro i w' w'' ⟨he,F',D,hnb,hlb⟩ hx;refine⟨he,F',D.other hx (by omega) hnb fun x hx'=>⟨?_,D.off x hx'⟩,hnb,by have:=hx.size;omega⟩;rw[hx.block x.1 (Al (D.blk x hx')) (by simpa using hneX _ _ x hx')];exact D.blk x hx'
 .rintro i ai ci w' hi ⟨he,F',D,hnb,hlb⟩ Rc hai ⟨a9,n9,c9,hbx9⟩;have hcl:=Nu b i;have hw0':=D.turn.size
  obtain⟨Lb,hLb,hLa⟩:∃Lb:List (Nat × Obj),(∀x∈Lb,w'.heap[x.1]?=some x.2/\¬F' x.1/\x.1<w0.heap.size)/\(b=[]\/∃o,((adr a).block,o)∈Lb):=by
   rcases hbl with h0|h0
   .exact⟨[],by simp,.inl h0⟩
   .by_cases hbe:b=[]
    .exact⟨[],by simp,.inl hbe⟩
    .obtain⟨o,ho⟩:∃o,w'.heap[(adr a).block]?=some o:=⟨_,Array.getElem?_eq_getElem (by omega)⟩;refine⟨[((adr a).block,o)],fun x hx=>?_,.inr ⟨o,qaf ..⟩⟩;rw[qaa.1 hx];exact⟨ho,fun hF=>(D.own _ hF).elim (hFa.resolve_left hbe) fun h=>by omega,h0⟩
  have hneL:∀(o2:Obj),∀x∈(b4,o2)::(bx,Bl 24 [.slice a9 n9 c9])::(Lb++L),x.1≠l:=by
   intro o2 x hx;rw[hL]at hx;simp only[qac,qau,qam,or_false]at hx
   rcases hx with rfl|rfl|hx|rfl|rfl|rfl
   .dsimp only;omega
   .dsimp only;omega
   .have:=(hLb x hx).2.2;omega
   .dsimp only;omega
   .dsimp only;omega
   .dsimp only;omega
  have hneL4:∀(o1:Obj),∀x∈(l,o1)::(bx,Bl 24 [.slice a9 n9 c9])::(Lb++L),x.1≠b4:=by
   intro o2 x hx;rw[hL]at hx;simp only[qac,qau,qam,or_false]at hx
   rcases hx with rfl|rfl|hx|rfl|rfl|rfl
   .dsimp only;omega
   .dsimp only;omega
   .have:=(hLb x hx).2.2;omega
   .dsimp only;omega
   .dsimp only;omega
   .dsimp only;omega
  have DL:Dv w0 w' bd (wrP A J b i).2 F F' ((l,.loop lo)::(b4,Bl 28 [.int .i64 0])::(bx,Bl 24 [.slice a9 n9 c9])::(Lb++L)):=by
   refine⟨D.dev,D.turn,D.own,D.lt,fun x hx=>?_,fun x hx=>?_⟩
   .simp only[qac,qau]at hx
    rcases hx with rfl|rfl|rfl|hx|hx
    .exact D.blk _ (qaf ..)
    .exact D.blk _ (qai _ (qaf ..))
    .exact hbx9
    .exact(hLb x hx).1
    .exact D.blk _ (qai _ (qai _ hx))
   .simp only[qac,qau]at hx
    rcases hx with rfl|rfl|rfl|hx|hx
    .exact D.off _ (qaf ..)
    .exact D.off _ (qai _ (qaf ..))
    .exact hnb
    .exact(hLb x hx).2.1
    .exact D.off _ (qai _ (qai _ hx))
  have hout:∀(o1 o2:Obj) {wz:World} {Az:Dev} {Fz:Nat->Prop},Dv w0 wz bd Az F Fz ((l,o1)::(b4,o2)::(bx,Bl 24 [.slice a9 n9 c9])::(Lb++L))->wz.heap[bx]?=w'.heap[bx]? /\ (b=[]\/wz.heap[(adr a).block]?=w'.heap[(adr a).block]?)/\Dv w0 wz bd Az F Fz ((l,o1)::(b4,o2)::L)/\¬Fz bx/\bx<wz.heap.size:=by
   intro o1 o2 wz Az Fz Dz;have hm:(bx,Bl 24 [.slice a9 n9 c9])∈(l,o1)::(b4,o2)::(bx,Bl 24 [.slice a9 n9 c9])::(Lb++L):=by simp
   refine⟨(Dz.blk _ hm).trans hbx9.symm,?_,Dz.sub ?_,Dz.off _ hm,Al (Dz.blk _ hm)⟩
   .rcases hLa with h0|⟨o,ho⟩
    .exact .inl h0
    right;rw[(hLb _ ho).1];exact Dz.blk ((adr a).block,o) (qai _ (qai _ (qai _ (qa5 _ ho))))
   .intro x hx;simp only[qac,qau]at hx |-
    rcases hx with h|h|h
    .exact .inl h
    .exact .inr (.inl h)
    .exact .inr (.inr (.inr (.inr h)))
  have hlo1:lo.state=.ready:=by rw[hlo]
  have hlo3:lo.pending=none:=by rw[hlo]
  have hll:¬F' l:=D.off _ (qaf ..);have hl0:w0.heap.size<=l:=by omega
  have hDL:∀x∈(b4,Bl 28 [.int .i64 0])::(bx,Bl 24 [.slice a9 n9 c9])::(Lb++L),w'.heap[x.1]?=some x.2/\¬F' x.1:=fun x hx=>⟨DL.blk x (qai _ hx),DL.off x (qai _ hx)⟩;subst hlo;refine KW (DL.blk _ (qaf ..)) U (II _ (NY hts htm) ?_);refine Ad (Ac U (qA (Av (Ak U (Ab (Lj (DL.blk _ (qaf ..)) U ?_))))));intro wR lo2 hxR hlR hlo2
  have D1:Dv w0 wR bd (wrP A J b i).2 F F' ((l,.loop lo2)::(b4,Bl 28 [.int .i64 0])::(bx,Bl 24 [.slice a9 n9 c9])::(Lb++L)):=DL.other hxR hl0 hll fun x hx=>by
   rcases qac.1 hx with rfl|hx
   .exact⟨hlR,hll⟩
   .exact⟨by rw[hxR.block x.1 (Al (hDL x hx).1) (by simpa using hneL _ x hx)];exact(hDL x hx).1,(hDL x hx).2⟩
  have RR:Rd wR ai 1 B8 (C1 b i):=by
   rcases hbl with h0|h0
   .rw[C1,h0];simp only[List.drop_nil,List.take_nil];exact Rd.nil
   .exact Rc.ext hxR (by rw[hai];simp;omega)
  have hmj:∀(o1 o2:Obj),(bj,Bl TJ (JB bd J))∈(l,o1)::(b4,o2)::(bx,Bl 24 [.slice a9 n9 c9])::(Lb++L):=fun o1 o2=>by simp[hL]
  have hm2:∀(o1 o2:Obj),(b2,Bl 81 [ptr bj])∈(l,o1)::(b4,o2)::(bx,Bl 24 [.slice a9 n9 c9])::(Lb++L):=fun o1 o2=>by simp[hL]
  have hm4:∀(o1 o2:Obj),(b4,o2)∈(l,o1)::(b4,o2)::(bx,Bl 24 [.slice a9 n9 c9])::(Lb++L):=fun o1 o2=>by simp
  have hjR:=D1.blk _ (hmj _ _)
  have hnx:wrP A J b (i+1)=(Ow (wrP A J b i).2 J i 1 (CY J.seq i (C1 b i)),Kv (wrP A J b i).2 J i 1 (CY J.seq i (C1 b i))):=by
   have h9:wrP A J b (i+1)=if(wrP A J b i).1=0 then(Ow (wrP A J b i).2 J i 1 (CY J.seq i (C1 b i)),Kv (wrP A J b i).2 J i 1 (CY J.seq i (C1 b i)))else wrP A J b i:=rfl;rw[h9,if_pos he]
  refine AE (BR [([0,1,2,3,4],5),([],6),([],7)] (fun z=>z.heap[b2]?=some (Bl 81 [ptr bj])) [] mixed (D1.blk _ (hm2 _ _)) ?_);refine AC U U (BG MK U (fun _ hx=>Ar hx 0) ?_);refine B9 U (BG MK U (fun _ hx=>Ar hx 0) ?_);refine B9 U (BF U (AU ?_))
  skip
  refine Ai qB (Tu (show(World.drew wR).heap[bj]?=_ from hjR) hJ i ai ci _ (C1 b i) (RR.ext0 (Ext.drew [] wR)) U (hm:=by omega)) U ?_;rintro v w5 F19;obtain⟨a19,c19,rfl,R19,hc19⟩:=Fresh.rdB F19;have D5:=(D1.call (Ext.drew [] wR)).call F19.ext;refine Ab (Bc (D5.blk _ (hm2 _ _)) (AC U U ?_));refine AU (Ai qB (Acn (D5.blk _ (hmj _ _)) hJ i 1 a19 c19 _ (CY J.seq i (C1 b i)) R19 U (by rw[Nt];omega) D5.lt (D5.off _ (hmj _ _)) (OE hfew i) D5.dev) U ?_);rintro v w6 ⟨rfl,DA6,hT6⟩;have D6:=D5.step DA6 hT6;refine Ab (Bc (D6.blk _ (hm2 _ _)) (AC U U ?_));refine AU (Ac U (Ab (Bc (D6.blk _ (hm2 _ _)) (B1 (Ad (Ae U (Ba U U (qA (Au _ U ?_ ?_)))))))))
  .intro g;replace g:=Bu g;replace H:=Ctx.start1 (D6.blk _ (hm4 _ _));refine Ad (Ae U (Bf (.int _ _) Ga U U U H at0 (by decide) ?_));rintro w H;refine qA (Ax (AL ?_));have hx8:=H.ext;have h4o:=D6.off _ (hm4 _ _)
   have D8:Dv w0 w bd (Kv (wrP A J b i).2 J i 1 (CY J.seq i (C1 b i))) F _ ((l,.loop lo2)::(b4,Bl 28 [.int .i64 (Ow (wrP A J b i).2 J i 1 (CY J.seq i (C1 b i)))])::(bx,Bl 24 [.slice a9 n9 c9])::(Lb++L)):=D6.other hx8 ho4 h4o fun x hx=>by
    have hx0:x=(b4,Bl 28 [.int .i64 (Ow (wrP A J b i).2 J i 1 (CY J.seq i (C1 b i)))])\/x∈(l,Obj.loop lo2)::(bx,Bl 24 [.slice a9 n9 c9])::(Lb++L):=by
     simp only[qac]at hx |-
     rcases hx with h|h|h
     .exact .inr (.inl h)
     .exact .inl h
     .exact .inr (.inr h)
    rcases hx0 with rfl|hx0
    .exact⟨H.get at0,h4o⟩
    .have hx1:x∈(l,Obj.loop lo2)::(b4,Bl 28 [.int .i64 0])::(bx,Bl 24 [.slice a9 n9 c9])::(Lb++L):=by
      simp only[qac]at hx0 |-
      rcases hx0 with h|h
      .exact .inl h
      .exact .inr (.inr h)
     exact⟨by rw[hx8.block x.1 (Al (D6.blk x hx1)) (by simpa using hneL4 _ x hx0)];exact D6.blk x hx1,D6.off x hx1⟩
   refine⟨lo2,D8.blk _ (qaf ..),?_⟩;have hx9:=Ext.setB w l (.loop { lo2 with state := .done,pending:=some .ret })
   have D9:Dv w0 (w.putObj l (.loop { lo2 with state := .done,pending:=some .ret })) bd (Kv (wrP A J b i).2 J i 1 (CY J.seq i (C1 b i))) F _ ((l,.loop { lo2 with state := .done,pending:=some .ret })::(b4,Bl 28 [.int .i64 (Ow (wrP A J b i).2 J i 1 (CY J.seq i (C1 b i)))])::(bx,Bl 24 [.slice a9 n9 c9])::(Lb++L)):=D8.other hx9 hl0 (D8.off _ (qaf ..)) fun x hx=>by
    rcases qac.1 hx with rfl|hx
    .exact⟨Io (D8.blk _ (qaf ..)),D8.off (l,.loop lo2) (qaf ..)⟩
    .have hx1:=qai (l,Obj.loop lo2) hx;exact⟨by rw[hx9.block x.1 (Al (D8.blk x hx1)) (by simpa using hneL _ x hx)];exact D8.blk x hx1,D8.off x hx1⟩
   obtain⟨g1,g2,g3,_,_⟩:=hout _ _ D9;have hst:wrP A J b (blk b.length - 1)=wrP A J b (i+1):=Yt (by rw[hnx];exact g) _ (by omega);rw[hst,hnx];subst hlo2;exact⟨g1,g2,false,rfl,(fun h=>by cases h),fun _=>⟨g,_,g3⟩⟩
  .intro g;replace g:=Bv g;refine Ap (AF (IA (D6.blk _ (qaf ..)) hlo2 U U ?_));intro wF hxF hlF
   have D9:=D6.other (L':=(l,_)::(b4,Bl 28 [.int .i64 0])::(bx,Bl 24 [.slice a9 n9 c9])::(Lb++L)) hxF hl0 (D6.off _ (qaf ..)) fun x hx=>by
    rcases qac.1 hx with rfl|hx
    .exact⟨hlF,D6.off (l,.loop lo2) (qaf ..)⟩
    .have hx1:=qai (l,Obj.loop lo2) hx;exact⟨by rw[hxF.block x.1 (Al (D6.blk x hx1)) (by simpa using hneL _ x hx)];exact D6.blk x hx1,D6.off x hx1⟩
   obtain⟨g1,g2,g3,g4,g5⟩:=hout _ _ D9;refine⟨g1,g2,true,rfl,fun _=>⟨by rw[hnx];exact g,_,by rw[hnx];exact g3,g4,g5⟩,fun h=>by cases h⟩
 .have hmD:(Db,Obj.deferred (some []))∈L:=by simp[hL]
  have hmJ:(bj,Bl TJ (JB bd J))∈L:=by simp[hL]
  have hm2:(b2,Bl 81 [ptr bj])∈L:=by simp[hL]
  have hneL:∀(o2:Obj),∀x∈(b4,o2)::L,x.1≠l:=by
   intro o2 x hx;rw[hL]at hx;simp only[qac,qam,or_false]at hx
   rcases hx with rfl|rfl|rfl|rfl <;> (dsimp only;omega)
  have hneL4:∀x∈L,x.1≠b4:=by
   intro x hx;rw[hL]at hx;simp only[qac,qam,or_false]at hx
   rcases hx with rfl|rfl|rfl <;> (dsimp only;omega)
  have hl0:w0.heap.size<=l:=by omega
  have hD0:w0.heap.size<=Db:=by omega
  have hjD:bj≠Db:=by omega
  have h4D:b4≠Db:=by omega
  have hswap:∀{w3 w4:World} {A':Dev} {F':Nat->Prop} {o1 o2:Obj},Dv w0 w3 bd A' F F' ((l,o1)::(b4,o2)::L)->Ext [l] w3 w4->Dv w0 w4 bd A' F F' ((b4,o2)::L):=fun{w3 w4 A' F' o1 o2} D hx =>
   D.other hx hl0 (D.off (l,o1) (qaf ..)) fun x hx'=>⟨by rw[hx.block x.1 (Al (D.blk x (qai _ hx'))) (by simpa using hneL _ x hx')];exact D.blk x (qai _ hx'),D.off x (qai _ hx')⟩
  rintro v w3 (⟨he,F',D,hnb,hlb⟩|⟨he,F',D⟩)
  .refine⟨_,D.blk _ (qaf ..),by rw[hlo];exact(fun h=>by cases h),HS (by rw[hlo]) ?_⟩;have hx4:=Ext.setB w3 l (.loop { lo with state := .exhausted });generalize w3.putObj l (.loop { lo with state := .exhausted })=w4 at hx4 |-;replace D:=hswap D hx4;refine AF (Aa ?_);have hfP:=OE (J:=J) (b:=b) hfew (blk b.length - 1);have hmc:∀{x:Nat × Obj} {o2:Obj},x∈L->x∈(b4,o2)::L:=fun h=>qai _ h
   have hset:∀{w5 w6:World} {A':Dev} {F':Nat->Prop} {o1 o2:Obj},Dv w0 w5 bd A' F F' ((b4,o1)::L)->Ext [b4] w5 w6->w6.heap[b4]?=some o2->Dv w0 w6 bd A' F F' ((b4,o2)::L):=fun{w5 w6 A' F' o1 o2} D hx h4 =>
    D.other hx ho4 (D.off (b4,o1) (qaf ..)) fun x hx'=>by
     rcases qac.1 hx' with rfl|hx'
     .exact⟨h4,D.off (b4,o1) (qaf ..)⟩
     .exact⟨by rw[hx.block x.1 (Al (D.blk x (hmc hx'))) (by simpa using hneL4 x hx')];exact D.blk x (hmc hx'),D.off x (hmc hx')⟩
   refine Aq (Ad (Be MK U (Ar (D.blk _ (hmc hm2)) 0) ?_));refine A8 U (Af NI U (Be Dn U (Ar (D.blk _ (hmc hmJ)) (0+0)) ?_));refine Ai qB (Mo hfP D.dev) U ?_;rintro v w5 ⟨rfl,DA5,hT5⟩;have D5:=D.same DA5 hT5;refine Ac U (qA (Ad (Ae U (Ba U U (qA (Au _ U ?_ ?_))))))
   .intro g2;replace g2:=Bu g2;replace H:=Ctx.start1 (D5.blk _ (qaf ..));refine Ad (Ae U (Bf (.int _ _) Ga U U U H at0 (by decide) ?_));rintro w H;refine qA (Ax (Ao (OD U U (Marks.mono ?_ (Kw (hset D5 H.ext (H.get at0)) U hmD hD0 hmJ hjD h4D)))));rintro w6 ⟨v,hv,rfl,hF⟩;refine⟨_,hv,?_,?_⟩
    .rw[CZ,if_pos he,if_neg g2]
    .rw[CZ,if_pos he,if_neg g2];exact hF
   .intro g2;replace g2:=Bv g2;refine Ap (Aa (Aq (BR [([0,1,2,5,6],3),([4],7),([],8),([],9)] (fun z=>z.heap[b2]?=some (Bl 81 [ptr bj])) [] mixed (D5.blk _ (hmc hm2)) ?_)));refine AC U U (BG MK U (fun _ hx=>Ar hx 0) ?_);refine BF U (Qb AX U (BG MK U (fun _ hx=>Ar hx 0) ?_));refine BF U (AU ?_)
    skip
    refine Ai qB (Gw (b.length:Int) _) U ?_;rintro v wB ⟨rfl,rfl⟩;rw[Je];refine Ab (Bc (D5.blk _ (hmc hm2)) (AC U U ?_));refine Iu U U U ?_;rw[show((blk b.length:Int) - 1)=((blk b.length - 1:Nat):Int)by omega];refine AU (Ai qB (Akb (show(World.drew w5).heap[bj]?=_ from D5.blk _ (hmc hmJ)) hJ a c _ b U) U ?_);rintro v w6 F39;obtain⟨a39,c39,rfl,R39,hc39⟩:=Fresh.rdB F39;have D6:=(D5.call (Ext.drew [] w5)).call F39.ext;refine Ab (Bc (D6.blk _ (hmc hm2)) (AC U U ?_));refine AU (Ai qB (Acn (D6.blk _ (hmc hmJ)) hJ (blk b.length - 1) 2 a39 c39 _ (Hk J.seq b) R39 U (by rw[Yl];decide) D6.lt (D6.off _ (hmc hmJ)) (I0 hfP) D6.dev) U ?_);rintro v w7 ⟨rfl,DA7,hT7⟩;have D7:=D6.step DA7 hT7;refine Ab (Bc (D7.blk _ (hmc hm2)) (AC U U ?_))
    refine AU (Ac U (Ab (Bc (D7.blk _ (hmc hm2)) (B1 (Ad (Ae U (Ba U U (qA (Au _ U ?_ ?_)))))))))
    .intro g3;replace g3:=Bu g3;replace H:=Ctx.start1 (D7.blk _ (qaf ..));refine Ad (Ae U (Bf (.int _ _) Ga U U U H at0 (by decide) ?_));rintro w H;refine qA (Ax (Ao (OD U U (Marks.mono ?_ (Kw (hset D7 H.ext (H.get at0)) U hmD hD0 hmJ hjD h4D)))));rintro w8 ⟨v,hv,rfl,hF⟩;refine⟨_,hv,?_,?_⟩
     .rw[CZ,if_pos he,if_pos g2,if_neg g3]
     .rw[CZ,if_pos he,if_pos g2,if_neg g3];exact hF
    .intro g3;replace g3:=Bv g3;refine Ap (Aa (Ad (Be MK U (Ar (D7.blk _ (hmc hm2)) 0) ?_)));refine A8 U (Af NI U (Be Dn U (Ar (D7.blk _ (hmc hmJ)) (0+0)) ?_));refine Ai qB (Mo (Hy (I0 hfP) _ _) D7.dev) U ?_;rintro v w8 ⟨rfl,DA8,hT8⟩;have D8:=D7.same DA8 hT8;replace H:=Ctx.start1 (D8.blk _ (qaf ..));refine Bf (.int _ _) Ga U U U H at0 (by decide) ?_;rintro w H;refine qA (Ax (OD U U (Marks.mono ?_ (Kw (hset D8 H.ext (H.get at0)) U hmD hD0 hmJ hjD h4D))));rintro w9 ⟨v,hv,rfl,hF⟩;refine⟨_,hv,?_,?_⟩
     .rw[CZ,if_pos he,if_pos g2,if_pos g3];rfl
     .rw[CZ,if_pos he,if_pos g2,if_pos g3];exact hF
  .refine⟨_,D.blk _ (qaf ..),(fun h=>by cases h),Aak U ?_⟩;have hx4:=Ext.setB w3 l (.loop { lo with state := .exhausted,pending:=some .ret });generalize w3.putObj l (.loop { lo with state := .exhausted,pending:=some .ret })=w4 at hx4 |-;replace D:=hswap D hx4;refine AL (Ao (OD U U (Marks.mono ?_ (Kw D U hmD hD0 hmJ hjD h4D))));rintro w6 ⟨v,hv,rfl,hF⟩;refine⟨_,hv,?_,?_⟩
   .rw[CZ,if_neg he]
   .rw[CZ,if_neg he];exact hF
theorem Akc{w:World}{bj bd:Nat}{J:Jr}(h:w.heap[bj]?=some (Bl TJ (JB bd J))) :
  Ret prog 86 #[ptr bj] w fun v w'=>v=.int .i64 (bif J.dead then 3 else 0)/\w=w':=by
 obtain⟨w0,rfl⟩:=qD w;unfold JB at h;have H:=Ctx.start1 h;refine A6 (fn:=f86) func86 U [.pointer (some ⟨bj,0,none⟩)] U ?_;refine Ad (Ac U (qA (Aq (AE (Ad (Am U (BW Aby U ?_)))))));refine An U (qA (Bz U (Ad (Am U (A8 U (Af Xl U (AH Gf U H at0 U (An U (qA ?_)))))))));refine Au _ U ?_ ?_
 .intro h1;refine Ad (Ac U (qA (Ax (AL (Ao (AG (v:=(.int _ _)) U U U ?_))))));exact⟨by simp[h1],rfl⟩
 .intro h1;refine Ap (AF (Aa (Ad (Ac U (qA (Ax (AG (v:=(.int _ _)) U U U ?_)))))));exact⟨by simp[h1],rfl⟩
theorem Ams(w:World):Ret prog 86 #[.pointer none] w fun v w'=>v=.int .i64 2/\w=w':=by
 refine A6 (fn:=f86) func86 U [.pointer none] U (Ad (Ac U (qA (Aq (AE (Ad (Am U (BW Aby U ?_))))))));refine An U (qA (EA U (Ad (Ac U (qA (Ax (AL (Ao (AG (v:=(.int _ _)) U U U ?_)))))))));exact⟨rfl,rfl⟩
theorem Acs{w:World}{bj bd:Nat}{J:Jr}(h:w.heap[bj]?=some (Bl TJ (JB bd J)))(hJ:J.Ok) :
  Ret prog 46 #[ptr bj] w fun v w'=>v=.int .i64 ((J.size - J.taken:Nat):Int)/\Ext [] w w':=by
 obtain⟨w0,rfl,H⟩:=qE w;have h1:=hJ.s2;have h2:=hJ.t;refine A6 (fn:=Tryz.f46) func46 U [.pointer (some ⟨bj,0,none⟩)] U ?_;refine Ad (Ac U (qA (Aq (Ad (Am U (BW Aby U ?_))))));refine qA (Bz U (Ap (Aa (J7 (fun x=>x=_) mixed U ?_))));refine GZ U (Eo U (BP NJ U (HZ DW U (by rintro _ rfl;exact(Ctx.old0 H.drew (Ar h _))) ?_)));refine GZ U (Eo U (BP Lc U (HZ DW U (by rintro _ rfl;exact(Ctx.old0 H.drew (Ar h _))) ?_)));refine Ut U U U (EO U (Jo ?_));rintro _ rfl;replace H:=H.drew;refine Ax (AG (v:=(.int _ _)) U U U ?_);exact⟨qab (Value.int .i64) (by omega),H.ext⟩
theorem Acu{w:World}{bj bd:Nat}{J:Jr}(h:w.heap[bj]?=some (Bl TJ (JB bd J))) :
  Ret prog 35 #[ptr bj] w fun v w'=>v=.tuple #[.int .i64 (J.at':Int),.int .u64 (J.seq:Int)]/\Ext [] w w':=by
 obtain⟨w0,rfl,H⟩:=qE w;refine A6 (fn:=f35) func35 U [.pointer (some ⟨bj,0,none⟩)] U ?_;refine Ad (Ac U (Ac U (qA (Aq (Ad (Am U (BW Aby U ?_)))))));refine qA (Bz U (Ap (Aa (J7 (fun x=>x=_) mixed U ?_))));refine GZ U (Eo U (BP NK U (HZ DW U (by rintro _ rfl;exact(Ctx.old0 H.drew (Ar h _))) ?_)));refine GZ U (Eo U (BP KZ U (HZ GC U (by rintro _ rfl;exact(Ctx.old0 H.drew (Ar h _))) ?_)));refine EO U (EO U (Jo ?_));rintro _ rfl;replace H:=H.drew;refine Ax (Ce (v1:=(.int _ _)) (v2:=(.int _ _)) U U U U ?_);exact⟨rfl,H.ext⟩
def Jr.passes(J:Jr)(n:Nat):Jr:={ J with at':=(J.at'+blk n) % J.size,seq:=J.seq+1,taken:=J.taken+blk n }
theorem Vq{w:World}{bj bd:Nat}{J:Jr}(h:w.heap[bj]?=some (Bl TJ (JB bd J)))(hJ:J.Ok)(n:Nat)(ht:J.taken+blk n<=J.size)(hn:n<=100000000:=by omega):
  Ret prog 76 #[ptr bj,.int .i64 (n:Int)] w fun v w'=>v=.tuple #[]/\w'.heap[bj]?=some (Bl TJ (JB bd (J.passes n)))/\Ext [bj] w w':=by
 obtain⟨w0,rfl⟩:=qD w;unfold JB at h;have H:=Ctx.start1 h;have h1:=hJ.s1;have h2:=hJ.s2;have h3:=hJ.a;have h4:=hJ.q;have hm:=qbl (J.at'+blk n) (show 0<J.size by omega);refine A6 (fn:=f76) func76 U [.pointer (some ⟨bj,0,none⟩),.int .i64 (n:Int)] U ?_;refine Ad (Ae U (Ai qB (Gw (n:Int) _) U ?_));rintro v w ⟨rfl,rfl⟩;rw[Je];refine Ac U (qA (Kg [([0,1,2,3,4,5,6,7,8,9,10,11,12,13,14,15,16,17,18,19,20,21,22,23,24,25,26],27),([28,29],30),([31,32],33)] (fun x=>x=World.drew w0) [27,30,33] mixed (rfl) ?_));refine AC U U (Cs U (Cs U (Cs U (Cs U (Bg U (AD NK U (Ux U DW U (by rintro _ rfl;exact H.drew) at0 U ?_)))))));refine B9 U (Fk U U ?_);refine Cs U (Bg U (AD NJ U (Ux U DW U (by rintro _ rfl;exact H.drew) at0 U ?_)))
 refine Anp U U U ?_;rw[show((J.at':Int)+(blk n:Int)) % (J.size:Int)=(((J.at'+blk n) % J.size:Nat):Int)by rw[Int.natCast_emod,Int.natCast_add]];refine Cs U (Bg U (AD KZ U (Ux U GC U (by rintro _ rfl;exact H.drew) at0 U ?_)));refine Uy U U U (Cs U (Bg U (AD Lc U (Ux U DW U (by rintro _ rfl;exact H.drew) at0 U ?_))));refine B9 U (Fk U U ?_);refine Bg U (AD NK U (AU ?_));replace H:=H.drew;refine Bf (.int _ _) Hv U U U H at0 (by(simp;done)) ?_;rintro w H;refine Ab (De U (AC U U ?_));refine Bg U (AD KZ U (AU (Bf (.int _ _) Xq U U U H at0 (by(simp;done)) ?_)));rintro w H;refine Ab (De U (AC U U ?_));refine Bg U (AD Lc U (AU (Bf (.int _ _) Hv U U U H at0 (by(simp;done)) ?_)));rintro w H;refine Ab (De U (B1 (Ih U U ?_)));exact⟨rfl,H.get at0,H.ext⟩
theorem Aal{w:World}{bj bd:Nat}{J:Jr}(h:w.heap[bj]?=some (Bl TJ (JB bd J))) :
  Ret prog 57 #[ptr bj] w fun v w'=>v=.int .i64 (bif J.dead then 3 else 0)/\w'.heap[bj]?=some (Bl TJ (JB bd (if J.dead then J else{ J with taken:=0 })))/\Ext [bj] w w':=by
 obtain⟨w0,rfl⟩:=qD w;unfold JB at h;have H:=Ctx.start1 h;refine A6 (fn:=f57) func57 U [.pointer (some ⟨bj,0,none⟩)] U ?_;refine Ad (Ac U (qA (Ad (Am U (Ai qB (Akc h) U ?_)))));rintro v w ⟨rfl,rfl⟩;refine Ac U (qA (Aq (Ad (Ae U (B6 U U (qA (Au _ U ?_ ?_)))))))
 .intro h1;replace h1:=AV h1;have hd:J.dead=false:=by cases hd:J.dead <;> simp_all
  refine Av (Am U (A8 U (Af Lc U (Bf (.int _ _) Hv U U U H at0 (by(simp;done)) ?_))));rintro w H;refine qA (Ad (Ae U (Ac U (qA (Ax (AG (v:=(.int _ _)) U U U ?_))))));exact⟨rfl,by rw[if_neg (by simp[hd])];exact H.get at0,H.ext⟩
 .intro h1;replace h1:=AW h1;have hd:J.dead=true:=by cases hd:J.dead <;> simp_all
  refine Ap (Aa (Ad (Ae U (Ac U (qA (Ax (AG (v:=(.int _ _)) U U U ?_)))))));exact⟨rfl,by rw[if_pos hd];exact H.get at0,H.ext⟩
def OG(A:Dev)(J:Jr)(b:Byt):Int:=if J.dead then 3 else if J.size - J.taken<blk b.length then 7 else(CZ A J b).1
def Il(A:Dev)(J:Jr)(b:Byt):Dev:=if J.dead then A else if J.size - J.taken<blk b.length then A else(CZ A J b).2
def OH(A:Dev)(J:Jr)(b:Byt):Jr:=if J.dead then J else if J.size - J.taken<blk b.length then J else if(CZ A J b).1=0 then J.passes b.length else{ J with dead:=true }
theorem Dv.base{w0 w:World}{bd:Nat}{A:Dev}{F F0 F':Nat->Prop}{L:List (Nat × Obj)}(D:Dv w0 w bd A F F' L)(h:∀x,F x->F0 x):Dv w0 w bd A F0 F' L :=
 ⟨D.dev,let ⟨S,hS,hx⟩:=D.turn;⟨S,fun x hx=>h x (hS x hx),hx⟩,fun x hx=>(D.own x hx).imp (h x) id,D.lt,D.blk,D.off⟩
theorem Dv.mine{w0 w w':World}{bd:Nat}{A:Dev}{F F':Nat->Prop}{b:Nat}{o o':Obj}(D:Dv w0 w bd A F F' [(b,o)])(hb:F b)(hx:Ext [b] w w')(h:w'.heap[b]?=some o'):Dv w0 w' bd A F F' [(b,o')]:=by
 have h1:=hx.size;have hn:¬F' b:=D.off (b,o) (qaf ..);exact⟨D.dev.keep hx fun x h=>by rw[qaa.1 h];exact hn,D.turn.trans (.of hx (S:=[b]) (F:=fun x=>x=b) fun x h=>qaa.1 h) fun x h => .inl (by rw[h];exact hb),fun x hx=>(D.own x hx).imp id fun h=>⟨h.1,by omega⟩,fun x hx=>by have:=D.lt x hx;omega,fun x hx=>by rw[qaa.1 hx];exact h,fun x hx=>by rw[qaa.1 hx];exact hn⟩
theorem Dv.from{w0 w1 w:World}{bd:Nat}{A:Dev}{F F0 F':Nat->Prop}{L:List (Nat × Obj)}(D:Dv w1 w bd A F F' L)(hx:Ext [] w0 w1)(h:∀x,F x->F0 x):Dv w0 w bd A F0 F' L:=by
 have D':=D.base h;have h1:=hx.size;exact⟨D'.dev,Turn.trans (.of0 hx) D'.turn fun x h => .inl h,fun x hx=>(D'.own x hx).imp id fun h=>⟨by omega,h.2⟩,D'.lt,D'.blk,D'.off⟩
theorem Dv.start{w:World}{bd:Nat}{A:Dev}{F F0:Nat->Prop}{L:List (Nat × Obj)}(D:DevAt w bd A F)(hlt:∀x,F x->x<w.heap.size)(h:∀x,F x->F0 x)(hL:∀x∈L,w.heap[x.1]?=some x.2/\¬F x.1):Dv w w bd A F0 F L :=
 ⟨D,.of0 (.refl _ _),fun x hx => .inl (h x hx),hlt,fun x hx=>(hL x hx).1,fun x hx=>(hL x hx).2⟩
theorem Ae7{w:World}{bj bd:Nat}{J:Jr}{A:Dev}{F:Nat->Prop}(h:w.heap[bj]?=some (Bl TJ (JB bd J)))(hJ:J.Ok)(a:Option Addr)(c n:Nat)(b:Byt)(R:Rd w a 1 B8 b)(hn:b.length=n)(hm:n<=900000)(hc:n<=c)(hlt:∀x,F x->x<w.heap.size)(hFj:¬F bj)(hFa:b=[]\/¬F (adr a).block){mx:Nat}(hfew:Few A mx)(hmx:mx<=1000000000)(DA:DevAt w bd A F) :
  Ret prog 48 #[ptr bj,.slice a n c] w fun v w'=>v=.int .i64 (OG A J b)/\∃F',Dv w w' bd (Il A J b) (fun x=>F x\/x=bj) F' [(bj,Bl TJ (JB bd (OH A J b)))]:=by
 subst hn;obtain⟨w0,rfl⟩:=qD w;have D0:Dv w0 w0 bd A (fun x=>F x\/x=bj) F [(bj,Bl TJ (JB bd J))]:=Dv.start DA hlt (fun x h => .inl h) fun x hx=>by rw[qaa.1 hx];exact⟨h,hFj⟩
 have hbl:=PB b.length;refine A6 (fn:=f48) func48 U [.pointer (some ⟨bj,0,none⟩),.slice a b.length c] U ?_;refine Ad (Ac U (qA (Aq (Ad (Am U (Ai qB (Akc h) U ?_))))));rintro v w ⟨rfl,rfl⟩;refine Ac U (qA (Ad (Ae U (Ba U U (qA (Au _ U ?_ ?_))))))
 .intro h1;replace h1:=Bu h1;have hd:J.dead=true:=by cases hd:J.dead <;> simp_all
  refine Ad (Ae U (Ac U (qA (Ax (Ao (AG (v:=(.int _ _)) U U U ?_))))));exact⟨by rw[OG,hd];rfl,F,by rw[Il,OH,hd];exact D0⟩
 .intro h1;replace h1:=Bv h1;have hd:J.dead=false:=by cases hd:J.dead <;> simp_all
  refine Ap (Aa (Aq (Ad (Aj U (AP AX U (Ai qB (Gw (b.length:Int) _) U ?_))))));rintro v w ⟨rfl,rfl⟩;rw[Je];refine Am U (Ai qB (Acs h hJ) U ?_);rintro v w ⟨rfl,hx⟩;have D1:=D0.call hx;refine BZ U U (qA (Au _ U ?_ ?_))
  .intro h2;replace h2:=AV h2;have hf:J.size - J.taken<blk b.length:=by omega
   refine Ad (Ac U (qA (Ax (Ao (AG (v:=(.int _ _)) U U U ?_)))));exact⟨by rw[OG,hd,if_pos hf];rfl,F,by rw[Il,OH,hd,if_pos hf,if_pos hf];exact D1⟩
  .intro h2;replace h2:=AW h2;have hf:¬J.size - J.taken<blk b.length:=by omega
   refine Ap (Aa (Aq (Ad (Am U (Aj U (Ai qB (Ae6 (D1.blk _ (qaf ..)) hJ a c _ b (R.ext0 hx) U hm hc D1.lt hFj hFa hfew hmx D1.dev) U ?_))))));rintro v w2 ⟨rfl,F2,D2⟩;have D2':Dv w0 w2 bd (CZ A J b).2 (fun x=>F x\/x=bj) F2 [(bj,Bl TJ (JB bd J))]:=Dv.from D2 hx fun x h => .inl h;refine Ac U (qA (Ad (Ae U (Ba U U (qA (Au _ U ?_ ?_))))))
   .intro h3;replace h3:=Bu h3;have hJ2:=D2'.blk _ (qaf ..);unfold JB at hJ2;have H:=Ctx.start1 hJ2;refine Ad (Am U (A8 U (Af Xl U (Bf (.bool _) Ah8 U U U H at0 (by(simp;done)) ?_))));rintro w H;refine qA (Ad (Ae U (Ac U (qA (Ax (Ao (AG (v:=(.int _ _)) U U U ?_)))))));have hd':(false=true)=False:=by simp
    refine⟨by rw[OG,hd,if_neg hf];rfl,F2,?_⟩;rw[Il,OH,hd,if_neg hf,if_neg hf,if_neg h3];exact D2'.mine (.inr U) H.ext (H.get at0)
   .intro h3;replace h3:=Bv h3;have hbt:=Et b.length;refine Ap (Aa (Ad (Am U (Aj U (AP AX U (Ai qB (Vq (D2'.blk _ (qaf ..)) hJ b.length (by have:=hJ.t;omega)) U ?_))))));rintro v w3 ⟨rfl,hj3,hx3⟩;refine qA (Ad (Ac U (qA (Ax (AG (v:=(.int _ _)) U U U ?_)))));refine⟨by rw[OG,hd,if_neg hf,h3];rfl,F2,?_⟩;rw[Il,OH,hd,if_neg hf,if_neg hf,if_pos h3];exact D2'.mine (.inr U) hx3 hj3
theorem append_nil(w:World)(v:Value):Ret prog 48 #[.pointer none,v] w fun v w'=>v=.int .i64 2/\w=w':=by
 refine A6 (fn:=f48) func48 U [.pointer none,v] U (Ad (Ac U (qA (Aq (Ad (Am U (Ai qB (Ams w) U ?_)))))));rintro v w ⟨rfl,rfl⟩;refine Ac U (qA (Ad (Ae U (Ba U U (qA (EA U (Ad (Ae U (Ac U ?_)))))))));refine qA (Ax (Ao (AG (v:=(.int _ _)) U U U ?_)));exact⟨rfl,rfl⟩
def Jy(J:Jr)(i:Nat)(b:Byt):Bool:=decide ((Dw b).toNat=1) && Tv (BC b) (CY J.seq i [])
def LB(J:Jr)(i:Nat)(s b:Byt):Bool:=decide ((Dw b).toNat=2) && (decide (0<i) && (decide (i=blk s.length - 1) && decide (BC b=Hk J.seq s)))
def Qy(A:Dev)(J:Jr):Nat->Nat->Byt->Option Byt
 |0,_,_=>none
 |n+1,i,s=>if Jy J i (at' A (J.place i))then Qy A J n (i+1) (s++(BC (at' A (J.place i))).drop 12)else if LB J i s (at' A (J.place i))then some s else none
def HV(A:Dev)(J:Jr):Option Byt:=Qy A J (J.size - J.taken) 0 []
def Aol(s:Option Byt)(v:Value)(w w':World):Prop :=
 match s with
 |some s=>∃a c,v=.tuple #[.slice a s.length c,.bool true,.int .i64 0]/\Rd w' a 1 B8 s/\s.length<=c/\(s=[]\/w.heap.size<=(adr a).block)/\s.length<=3000000
 |none=>v=.tuple #[.slice none 0 0,.bool false,.int .i64 0]
theorem Amt{w:World}{bj bd:Nat}{J:Jr}{A:Dev}{F:Nat->Prop}(h:w.heap[bj]?=some (Bl TJ (JB bd J)))(hJ:J.Ok)(ho:A.on=true){mx:Nat}(hfew:Few A mx)(hmx:mx<=1000000000)(DA:DevAt w bd A F)(hl:J.frm+J.size<=A.B.length:=by omega):
  Ret prog 75 #[ptr bj] w fun v w'=>Aol (HV A J) v w w'/\Ext [] w w':=by
 obtain⟨w0,rfl,H⟩:=qE w;have hs2:=hJ.s2;have ht:=hJ.t;refine A6 (fn:=f75) func75 U [.pointer (some ⟨bj,0,none⟩)] U ?_;refine Ad (Ak U (An U (Ac U (qA (Aq (J7 (fun x=>x=_) mixed U ?_))))));refine GZ U (Eo U (BP NJ U (HZ DW U (by rintro _ rfl;exact(Ctx.old0 H.drew (Ar h _))) ?_)));refine GZ U (Eo U (BP Lc U (HZ DW U (by rintro _ rfl;exact(Ctx.old0 H.drew (Ar h _))) ?_)));refine Ut U U U (DM U (Jo ?_));rintro _ rfl;replace H:=H.drew
 refine AE (B7 38685626227668133589551100 (α:=Nat × Byt × Option Addr × Nat × List Value) (fun s=>[(20,.int .i64 s.1),(2,.slice s.2.2.1 s.2.1.length s.2.2.2.1)]) (fun s w'=>s.1<=J.size - J.taken/\s.2.1.length<=505*s.1/\Ctx w0 [] w' (ent s.2.2.1 5 s.2.2.2.2)/\OS s.2.2.1 s.2.1.length s.2.2.2.1 1 s.2.2.2.2 (s.2.1.map bv)/\Qy A J (J.size - J.taken - s.1) s.1 s.2.1=HV A J) (fun s=>J.size - J.taken - s.1) (0,[],none,0,[]) U ?_ ?_ ?_)
 .exact⟨rfl,rfl,trivial⟩
 .exact⟨qak _,qak _,H,OS.nil,rfl⟩
 .rintro⟨i,s,a,c,full⟩ j w ⟨hi,hsl,H,O,hN⟩;dsimp only at hi hsl H O hN;dsimp only;refine Ad (Bn U U (qA (Aq (Au _ U ?_ ?_))))
  .intro h1;replace h1:=AV h1;obtain⟨n,hn⟩:∃n,J.size - J.taken - i=n+1:=⟨J.size - J.taken - i - 1,by omega⟩;have hpl:=hJ.place i
   have hrE:GK A (J.place i:Int)=0:=by
    unfold GK Dev.has;rw[ho,qal (show(0:Int)<=J.place i by omega),qal (show(J.place i:Int)<A.B.length by omega)];rfl
   have hrB:GL A (J.place i:Int)=at' A (J.place i):=by
    unfold GL at';rw[hrE];rfl
   have hrl:(at' A (J.place i)).length=512:=Kt DA.wf (NW);obtain⟨raw,hraw⟩:=qD (at' A (J.place i));rw[<-hraw]at hrB hrl
   have hNx:HV A J=if Jy J i raw then Qy A J n (i+1) (s++(BC raw).drop 12)else if LB J i s raw then some s else none:=by
    rw[<-hN,hn,hraw];rfl
   have hjw:w.heap[bj]?=some (Bl TJ (JB bd J)):=by rw[H.ext.block bj (Al h) (by simp)];exact h
   refine Ap (Aa (Aq (AE (Ad (Ae U (Ac U (qA (BR [([0,1,2,3,4,5],6),([],7),([8,9,10,11],12)] (fun z=>z.heap[bj]?=some (Bl TJ (JB bd J))) [] mixed (hjw) ?_))))))));refine AC U U (Cs U (Bg U (AD NI U (BG Dn U (fun _ hx=>Ar hx (0+0)) ?_))));refine Cs U (B9 U (AU ?_))
   skip
   refine Ai qB (Vo (show(World.drew w).heap[bj]?=_ from hjw) hJ i (by omega)) U ?_;rintro v w3 ⟨rfl,hx3⟩;replace H:=H.drew.call hx3;have hj3:w3.heap[bj]?=some (Bl TJ (JB bd J)):=by rw[hx3.block bj (Al hjw) (by simp)];exact hjw
   refine Ab (Bc (hj3) (AC U U ?_));refine AU (Ai qB (SE (J.place i:Int) hfew (DA.keep0 H.ext)) U ?_);rintro v w4 ⟨s31,rfl,F31⟩;rw[hrB]at F31;rw[hrE];obtain⟨a31,c31,rfl,R31,hc31⟩:=Fresh.rdB F31;replace H:=H.call F31.ext;have hj4:w4.heap[bj]?=some (Bl TJ (JB bd J)):=by rw[F31.ext.block bj (Al hj3) (by simp)];exact hj3
   refine Ab (Bc (hj4) (AC U U ?_));refine Ij U (CA U U (CA U U (Iv U U (AU (Ac U (Ab (Bc (hj4) (B1 (Aq (Ad ?_))))))))));refine Ae U (Ba U U (qA (Bz U (Ap (Aa (Ad (Aj U (Ai qB (Wd a31 c31 _ raw _ R31 U hc31) U ?_))))))));rintro v w5 P39;obtain⟨a39,c39,rfl,hx39,R39,hc39⟩:=Al8 P39;replace H:=H.call hx39;have hj5:w5.heap[bj]?=some (Bl TJ (JB bd J)):=by rw[hx39.block bj (Al hj4) (by simp)];exact hj4
   refine AQ U (Ah U U (Ah U U (Ah U U (Ac U (Ak U (Ac U (qA (AE ?_))))))));have hxj:Ext [] w5 w5 := .refl _ _;have hbo:=Pt raw;have hb2:=Et s.length;have hb3:=PB s.length;have hp12:(CY J.seq i []).length=12:=by rw[Nt];rfl
   refine Ad (BE (α:=Unit) 8998403161718784 (fun _=>[(43,.bool (Jy J i raw))]) (fun _ w'=>Ctx w0 [] w' (ent a 5 full)/\Ext [] w5 w') U ?_ ?_)
   .refine Ae U (B6 U U (AA U (AR 46 U ?_ ?_)))
    .intro h1;replace h1:=AV h1;refine Aj U (Am U (Ae U (Ai qB (Tu hj5 hJ i none 0 0 [] Rd.nil U) U ?_)));rintro v w6 F50;obtain⟨a50,c50,rfl,R50,hc50⟩:=Fresh.rdB F50;replace H:=H.call F50.ext;replace hxj:=F50.ext;refine Ai qB (Ae3 a39 a50 c39 c50 _ _ (BC raw) (CY J.seq i []) (R39.ext0 F50.ext) R50 U U hc39) U ?_;rintro v w7 ⟨rfl,rfl⟩;refine AN U (.bool _) U (An U (Ab ?_));exact⟨rfl,(),rfl,⟨qab Value.bool (by rw[qar];simp_all[Jy];try omega),trivial⟩,⟨H,hxj⟩⟩
    .intro h2;replace h2:=AW h2;refine Ag U (Ag U (Ag U (Ag U (Ag U (AK U (.bool _) U (An U (Ab ?_)))))));exact⟨rfl,(),rfl,⟨qab Value.bool (by rw[qar];simp_all[Jy];try omega),trivial⟩,⟨H,hxj⟩⟩
   rintro - j43 w ⟨H,hx9⟩;have hj6:w.heap[bj]?=some (Bl TJ (JB bd J)):=by rw[hx9.block bj (Al hj5) (by simp)];exact hj5
   have R9:=R39.ext0 hx9;refine Au _ U ?_ ?_
   .intro h2
    have hpl12:12<=(BC raw).length:=by
     have h3:=h2;simp only[Jy,Tv,qao,qap]at h3;omega
    have hl60:(s++(BC raw).drop 12).length=s.length+((BC raw).length - ((12:Nat):Int).toNat):=by rw[qan,qbg];rfl
    refine Av (Aj U (Aj U (Am U (Ae U (Ai qB (Tu hj6 hJ i none 0 0 [] Rd.nil U) U ?_)))));rintro v w7 F57;obtain⟨a57,c57,rfl,R57,hc57⟩:=Fresh.rdB F57;replace H:=H.call F57.ext;rw[hp12];refine AP AX U (F8 AX CT U U ?_);refine DS (L:=[]) U AX AX CT Pf IP U (((BC raw).drop 12).map bv) U U H O (by simp) (Ht _) (Rd.appB ((R9.cut 12 c39 hc39).ext0 F57.ext)) ?_;rintro a60 c60 full60 w8 H O;rw[<-qaz,<-hl60]at O;rw[<-hl60];refine Ak U (Ab (AF (AF (Aa (Av (A7 U U ?_))))));refine Ae U (qA ?_);refine⟨(i+1,s++(BC raw).drop 12,a60,c60,full60),rfl,⟨rfl,rfl,trivial⟩,⟨by dsimp only;omega,by dsimp only;omega,H,O,?_⟩,by dsimp only;omega⟩;dsimp only;rw[hNx,if_pos h2,show J.size - J.taken - (i+1)=n by omega]
   .intro h2;have hxk:Ext [] w w := .refl _ _;refine Ad (BE (α:=Unit) 9671404251074024183955456 (fun _=>[(61,.bool (LB J i s raw))]) (fun _ w'=>Ctx w0 [] w' (ent a 5 full)) U ?_ ?_)
    .refine Ae U (B6 U U (AA U (AR 64 U ?_ ?_)))
     .intro h3;replace h3:=AV h3;refine Ae U (BZ U U (AN U (.bool _) U (AA U (AR 68 U ?_ ?_))))
      .intro h4;replace h4:=AV h4;refine Ae U (Aj U (AP AX U (Ai qB (Gw (s.length:Int) _) U ?_)));rintro v w7 ⟨rfl,rfl⟩;rw[Je];refine BB U U ?_;refine B6 U U (AN U (.bool _) U (AA U (AR 76 U ?_ ?_)))
       .intro h5;replace h5:=AV h5;refine Aj U (Am U (Aj U (Ai qB (Akb hj6 hJ a c _ s U) U ?_)));rintro v w8 F80;obtain⟨a80,c80,rfl,R80,hc80⟩:=Fresh.rdB F80;replace H:=H.call F80.ext;refine Ai qB (Yn a39 a80 c39 c80 _ _ (BC raw) (Hk J.seq s) (R9.ext0 F80.ext) R80 U U) U ?_;rintro v w9 ⟨rfl,rfl⟩;refine AN U (.bool _) U (An U (Ab ?_));exact⟨rfl,(),rfl,⟨qab Value.bool (by rw[qar];simp_all[LB];try exact⟨fun hh=>⟨by omega,by omega,by omega,hh⟩,fun hh=>hh.2.2.2⟩),trivial⟩,H⟩
       .intro h6;replace h6:=AW h6;refine Ag U (Ag U (Ag U (Ag U (Ag U (AK U (.bool _) U (An U (Ab ?_)))))));exact⟨rfl,(),rfl,⟨qab Value.bool (by rw[qar];simp_all[LB];try omega),trivial⟩,H⟩
      .intro h7;replace h7:=AW h7;refine Ag U (Ag U (Ag U (Ag U (Ag U (Ag U (AK U (.bool _) U (AA U (Ag U (Ag U ?_)))))))));refine Ag U (Ag U (Ag U (AK U (.bool _) U (An U (Ab ?_)))));exact⟨rfl,(),rfl,⟨qab Value.bool (by rw[qar];simp_all[LB];try first|omega|exact⟨fun hh=>⟨by omega,by omega,by omega,hh⟩,fun hh=>hh.2.2.2⟩),trivial⟩,H⟩
     .intro h8;replace h8:=AW h8;refine Ag U (Ag U (AK U (.bool _) U (AA U (Ag U (Ag U (Ag U (Ag U (Ag U (Ag U ?_)))))))));refine AK U (.bool _) U (AA U (Ag U (Ag U (Ag U (Ag U (Ag U (AK U (.bool _) U (An U (Ab ?_)))))))));exact⟨rfl,(),rfl,⟨qab Value.bool (by rw[qar];simp_all[LB];try omega),trivial⟩,H⟩
    rintro - j61 w H;refine Au _ U ?_ ?_
    .intro h3;obtain⟨a',c',he,R',hc',hb'⟩:=Fresh.newB (Ctx.fresh (L:=[]) H O)
     injection he with e1 _ e2
     subst e1 e2;refine Ad (Aj U (Ak U (An U (Ac U (qA (Ax (AL (AL (Ao (Ao (AL (Ao (CX (v1:=(.slice _ _ _)) (v2:=(.bool _)) (v3:=(.int _ _)) U U U U U ?_)))))))))))));exact⟨by rw[hNx,if_neg (by rw[h2];simp),if_pos h3];exact⟨a,c,rfl,R',hc',hb',by omega⟩,H.ext⟩
    .intro h3;refine Ad (Ak U (An U (Ac U (qA (Ax (AL (AL (Ao (Ao (AL (Ao (CX (v1:=(.slice _ _ _)) (v2:=(.bool _)) (v3:=(.int _ _)) U U U U U ?_))))))))))));exact⟨by rw[hNx,if_neg (by rw[h2];simp),if_neg (by rw[h3];simp)];exact rfl,H.ext⟩
  .intro h1;replace h1:=AW h1;have hi2:J.size - J.taken - i=0:=by omega
   rw[hi2]at hN;refine B3 (Ay (Ay (Bb (Aa (Ad (Ak U (An U (Ac U (qA (Ax (CX (v1:=(.slice _ _ _)) (v2:=(.bool _)) (v3:=(.int _ _)) U U U U U ?_)))))))))));exact⟨by rw[<-hN];exact rfl,H.ext⟩
theorem PC{A:Dev}{J:Jr}{s:Byt}:∀(n i:Nat) (s0:Byt),Qy A J n i s0=some s->∃j,i<=j/\j<i+n/\j=blk s.length - 1/\LB J j s (at' A (J.place j))=true
 |0,_,_,h=>by cases h
 |n+1,i,s0,h=>by
  unfold Qy at h
  split at h
  .obtain⟨j,h1,h2,h3⟩:=PC n _ _ h;exact⟨j,by omega,by omega,h3⟩
  .split at h
   .rename_i h2
    cases h;refine⟨i,qae _,by omega,?_,h2⟩;simp only[LB,qao,qap]at h2;exact h2.2.2.1
   .cases h
theorem Ae8{A:Dev}{J:Jr}{s:Byt}(h:HV A J=some s):J.taken+blk s.length<=J.size:=by
 obtain⟨j,h1,h2,h3,-⟩:=PC _ _ _ h;have:=Et s.length;omega
theorem Jr.Ok.passes{J:Jr}(h:J.Ok)(hq:J.seq<=4611686018427387904+J.taken){n:Nat}(hf:J.taken+blk n<=J.size):(J.passes n).Ok/\(J.passes n).seq<=4611686018427387904+(J.passes n).taken:=by
 have h1:=h.s1;have h2:=h.s2;have h3:=Et n;have hm:=qbl (J.at'+blk n) (show 0<J.size by omega);refine⟨⟨h.s1,h.s2,hm,hf,?_⟩,?_⟩
 .show J.seq+1<=_;omega
 .show J.seq+1<=_+(J.taken+blk n);omega
def LC(A:Dev):Nat->Jr->List Byt × Jr
 |0,J=>([],J)
 |n+1,J=>match HV A J with
  |none=>([],J)
  |some s=>(s::(LC A n (J.passes s.length)).1,(LC A n (J.passes s.length)).2)
def LD(A:Dev)(J:Jr):List Byt × Jr:=LC A (J.size+1) J
theorem T7{A:Dev}{J:Jr}(n:Nat)(h:HV A J=none):LC A (n+1) J=([],J):=by unfold LC;rw[h]
theorem T8{A:Dev}{J:Jr}(n:Nat){s:Byt}(h:HV A J=some s):LC A (n+1) J=(s::(LC A n (J.passes s.length)).1,(LC A n (J.passes s.length)).2):=by
 show(match HV A J with|none=>_|some s=>_)=_;rw[h]
structure Strs(w:World)(a:Option Addr)(n c:Nat)(L:List Byt):Prop where
 ex:∃xs:List SB,Rd w a 1 Ai3 xs/\xs.map (fun x=>x.2.1)=L/\∀x∈xs,RdS w x
 num:n=L.length
 le:n<=c
theorem Strs.ext0{w w':World}{a:Option Addr}{n c:Nat}{L:List Byt}(h:Strs w a n c L)(hx:Ext [] w w'):Strs w' a n c L :=
 let ⟨xs,R,hl,hr⟩:=h.ex;⟨⟨xs,R.ext0 hx,hl,fun x hm=>(hr x hm).ext0 hx⟩,h.num,h.le⟩
structure StrsF(N:Nat)(w:World)(a:Option Addr)(n c:Nat)(L:List Byt):Prop where
 ex:∃xs:List SB,Rd w a 1 Ai3 xs/\xs.map (fun x=>x.2.1)=L/\(∀x∈xs,RdS w x)/\(xs=[]\/N<=(adr a).block)/\∀x∈xs,x.2.1=[]\/N<=(adr x.1).block
 num:n=L.length
 le:n<=c
theorem StrsF.strs{N:Nat}{w:World}{a:Option Addr}{n c:Nat}{L:List Byt}(h:StrsF N w a n c L):Strs w a n c L :=
 let ⟨xs,R,hl,hr,_⟩:=h.ex;⟨⟨xs,R,hl,hr⟩,h.num,h.le⟩
theorem StrsF.side{N:Nat}{w w':World}{a:Option Addr}{n c:Nat}{L:List Byt}{S:List Nat}(h:StrsF N w a n c L)(hx:Ext S w w')(hS:∀x∈S,x<N):StrsF N w' a n c L:=by
 obtain⟨xs,R,hl,hr,ha,hb⟩:=h.ex;refine⟨⟨xs,?_,hl,fun x hm=>⟨?_,(hr x hm).2⟩,ha,hb⟩,h.num,h.le⟩
 .rcases ha with rfl|ha
  .exact Rd.nil
  .exact R.ext hx fun hm=>by have:=hS _ hm;omega
 .rcases hb x hm with h0|h0
  .rw[h0];exact Rd.nil
  .exact(hr x hm).1.ext hx fun hm=>by have:=hS _ hm;omega
theorem StrsF.ext0{N:Nat}{w w':World}{a:Option Addr}{n c:Nat}{L:List Byt}(h:StrsF N w a n c L)(hx:Ext [] w w'):StrsF N w' a n c L:=h.side hx fun x h=>by cases h
theorem StrsF.less{N M:Nat}{w:World}{a:Option Addr}{n c:Nat}{L:List Byt}(h:StrsF N w a n c L)(hN:M<=N):StrsF M w a n c L :=
 let ⟨xs,R,hl,hr,ha,hb⟩:=h.ex;⟨⟨xs,R,hl,hr,ha.imp id (qav hN),fun x hm=>(hb x hm).imp id (qav hN)⟩,h.num,h.le⟩
theorem Ae9{s:Option Byt}{v:Value}{w w':World}(h:Aol s v w w'):∃a n c,v=.tuple #[.slice a n c,.bool s.isSome,.int .i64 0]/\∀x,s=some x->n=x.length/\RdS w' (a,x,c)/\x.length<=3000000/\(x=[]\/w.heap.size<=(adr a).block):=by
 cases s with
 |none=>exact⟨none,0,0,h,fun x hx=>by cases hx⟩
 |some x =>
  obtain⟨a,c,rfl,R,hc,hb,hm⟩:=h;exact⟨a,x.length,c,rfl,fun y hy=>by cases hy;exact⟨rfl,⟨R,hc⟩,hm,hb⟩⟩
def jr0(f z p:Int)(q:Nat):Jr:=⟨f.toNat,z.toNat,p.toNat,q,0,false⟩
theorem Afa{m:Nat}{f z p:Int}{q:Nat}(h:Ew m f z p q=true)(hm:m<=4096):(jr0 f z p q).Ok/\(jr0 f z p q).seq<=4611686018427387904+(jr0 f z p q).taken/\(jr0 f z p q).frm+(jr0 f z p q).size<=m:=by
 simp only[Ew,qao,qap]at h;refine⟨⟨?_,?_,?_,?_,?_⟩,?_,?_⟩ <;> simp only[jr0] <;> omega
theorem Vr{w:World}{bd:Nat}{A:Dev}{F:Nat->Prop}(f z p:Int)(q:Nat)(hf : -9223372036854775808<=f/\f<=9223372036854775807)(hz : -9223372036854775808<=z/\z<=9223372036854775807)(hm:A.B.length<=4096)(ho:A.on=true){mx:Nat}(hfew:Few A mx)(hmx:mx<=1000000000)(DA:DevAt w bd A F) :
  Ret prog 34 #[ptr bd,.int .i64 f,.int .i64 z,.int .i64 p,.int .u64 (q:Int)] w fun v w'=>Ext [] w w'/\((Ew A.B.length f z p q=false/\v=.tuple #[.pointer none,.slice none 0 0,.int .i64 1]) \/
   (Ew A.B.length f z p q=true/\∃bj a n c,v=.tuple #[ptr bj,.slice a n c,.int .i64 0]/\w.heap.size<=bj/\w'.heap[bj]?=some (Bl TJ (JB bd (LD A (jr0 f z p q)).2))/\StrsF w.heap.size w' a n c (LD A (jr0 f z p q)).1)):=by
 obtain⟨w0,rfl,H⟩:=qE w;obtain⟨bs,bm,hhd⟩:=DA.hd;refine A6 (fn:=f34) func34 U [.pointer (some ⟨bd,0,none⟩),.int .i64 f,.int .i64 z,.int .i64 p,.int .u64 (q:Int)] U ?_;refine Ad (Bx U (Ak U (Ac U (qA (Aq (AE (Ad (Am U (BW MM U ?_)))))))));refine An U (qA (Bz U (Aq (Ad (Ae U (Bn U U (An U (qA (EZ 8796089352192 (α:=Unit) (fun _=>[(19,.bool (!Ew A.B.length f z p q))]) (fun _ w'=>w0=w') U ?_ ?_)))))))))
 .skip
  refine DC 19 U ?_ ?_
  .intro h1;replace h1:=AV h1;refine Ap (Aa ?_);exact⟨(),rfl,⟨qab Value.bool (by rw[qar];simp_all[Ew];try omega),trivial⟩,rfl⟩
  .intro h2;replace h2:=AW h2;refine Ad (Ae U (Bn U U (An U (qA (DC 19 U ?_ ?_)))))
   .intro h3;replace h3:=AV h3;refine Ap (Aa ?_);exact⟨(),rfl,⟨qab Value.bool (by rw[qar];simp_all[Ew];try omega),trivial⟩,rfl⟩
   .intro h4;replace h4:=AW h4;refine Ad (Ae U (Am U (Ai qB (He hhd) U ?_)));rintro v w ⟨rfl,rfl⟩;refine BZ U U (An U (qA (DC 19 U ?_ ?_)))
    .intro h5;replace h5:=AV h5;refine Ap (Aa ?_);exact⟨(),rfl,⟨qab Value.bool (by rw[qar];simp_all[Ew];try omega),trivial⟩,rfl⟩
    .intro h6;replace h6:=AW h6;refine Ad (Ae U (Am U (Ai qB (He hhd) U ?_)));rintro v w ⟨rfl,rfl⟩;refine Ae U (BB U U ?_);refine BZ U U (An U (qA (DC 19 U ?_ ?_)))
     .intro h7;replace h7:=AV h7;refine Ap (Aa ?_);exact⟨(),rfl,⟨qab Value.bool (by rw[qar];simp_all[Ew];try omega),trivial⟩,rfl⟩
     .intro h8;replace h8:=AW h8;refine Ad (Ae U (Bn U U (An U (qA (DC 19 U ?_ ?_)))))
      .intro h9;replace h9:=AV h9;refine Ap (Aa ?_);exact⟨(),rfl,⟨qab Value.bool (by rw[qar];simp_all[Ew];try omega),trivial⟩,rfl⟩
      .intro h10;replace h10:=AW h10;refine Ad (Ae U (Ae U (IE U U (An U (qA (DC 19 U ?_ ?_))))))
       .intro h11;replace h11:=AV h11;refine Ap (Aa ?_);exact⟨(),rfl,⟨qab Value.bool (by rw[qar];simp_all[Ew];try omega),trivial⟩,rfl⟩
       .intro h12;replace h12:=AW h12;refine Ad (Ae U (Bn U U (An U (qA (DC 19 U ?_ ?_)))))
        .intro h13;replace h13:=AV h13;refine Ap (Aa ?_);exact⟨(),rfl,⟨qab Value.bool (by rw[qar];simp_all[Ew];try omega),trivial⟩,rfl⟩
        .intro h14;replace h14:=AW h14;refine Av (Ae U (BZ U U (An U (qA ?_))));exact⟨(),rfl,⟨qab Value.bool (by rw[qar];simp_all[Ew];try omega),trivial⟩,rfl⟩
 .rintro - j19 w rfl;refine DC 19 U ?_ ?_
  .intro h1;refine Ad (Bx U (Ak U (Ac U (qA (Ax (AL (Ao (CX (v1:=(.pointer _)) (v2:=(.slice _ _ _)) (v3:=(.int _ _)) U U U U U ?_))))))));exact⟨H.ext,.inl ⟨by simpa using h1,rfl⟩⟩
  .intro h1;have hr:Ew A.B.length f z p q=true:=by simpa using h1
   obtain⟨hJ0,hq0,hl0⟩:=Afa hr hm;have hr2:=hr;simp only[Ew,qao,qap]at hr2;obtain⟨J0,hJ0e⟩:=qD (jr0 f z p q);rw[<-hJ0e]at hJ0 hq0 hl0
   have hb0:[ptr bd,Value.int .i64 f,.int .i64 z,.int .i64 p,.int .u64 (q:Int),.int .i64 0,.bool false]=JB bd J0:=by
    rw[hJ0e];simp only[JB,jr0,qdl,Value.int.injEq,true_and,and_true];omega
   refine Ap (AF (Aa (Ad (Am U (Ae U (Ae U (Ae U (Ae U (B2 [ptr bd,.int .i64 f,.int .i64 z,.int .i64 p,.int .u64 (q:Int),.int .i64 0,.bool false] Apl App ?_)))))))));rw[hb0];refine Cn _ (.agg _) U U H ?_;rintro b49 w - H
   refine Bx U (qA (AE (B7 9444731839839383649280 (α:=List SB × Jr × Option Addr × Nat × List Value) (fun s=>[(10,ptr b49),(11,.slice s.2.2.1 s.1.length s.2.2.2.1)]) (fun s w'=>s.2.1.Ok/\s.2.1.seq<=4611686018427387904+s.2.1.taken/\s.2.1.frm=J0.frm/\s.2.1.size=J0.size/\s.1.length<=s.2.1.taken/\LD A J0=(s.1.map (fun x=>x.2.1)++(LC A (J0.size+1 - s.1.length) s.2.1).1,(LC A (J0.size+1 - s.1.length) s.2.1).2)/\Ctx w0 [] w' ([(b49,Bl TJ (JB bd s.2.1))]++ent s.2.2.1 24 s.2.2.2.2)/\OS s.2.2.1 s.1.length s.2.2.2.1 1 s.2.2.2.2 (s.1.map fun x => .slice x.1 x.2.1.length x.2.2)/\∀x∈s.1,RdS w' x/\(x.2.1=[]\/∀y∈[(b49,Bl TJ (JB bd s.2.1))]++ent s.2.2.1 24 s.2.2.2.2,y.1≠(adr x.1).block)/\(x.2.1=[]\/w0.heap.size<=(adr x.1).block)) (fun s=>J0.size - s.2.1.taken) ([],J0,none,0,[]) U ?_ ?_ ?_)))
   .exact⟨rfl,rfl,trivial⟩
   .exact⟨hJ0,hq0,rfl,rfl,qak _,rfl,H,OS.nil,fun x hx=>by cases hx⟩
   .rintro⟨xs,J,a,c,full⟩ j w ⟨hJ,hq,hfr,hsz,hk,hop,H,O,hxs⟩;dsimp only at hJ hq hfr hsz hk hop H O hxs;dsimp only;have hs1:=hJ.s1;have hs2:=hJ.s2;have hst:=hJ.t;refine AE (Ad (Am U (Ai qB (Amt (H.get at0) hJ ho hfew hmx (DA.keep0 H.ext)) U ?_)));rintro v w2 ⟨hnv,hx2⟩;have hszw:=H.ext.size;have hlt1:∀y∈[(b49,Bl TJ (JB bd J))]++ent a 24 full,y.1<w.heap.size:=(fun y hy=>Al (H.blk y hy));replace H:=H.call hx2;obtain⟨a13,n13,c13,rfl,h13⟩:=Ae9 hnv;replace hxs:∀x∈xs,RdS w2 x/\(x.2.1=[]\/∀y∈[(b49,Bl TJ (JB bd J))]++ent a 24 full,y.1≠(adr x.1).block)/\(x.2.1=[]\/w0.heap.size<=(adr x.1).block):=(fun x hm=>⟨(hxs x hm).1.ext0 hx2,(hxs x hm).2⟩);refine AQ U (Ah U U (Ah U U (Ah U U (Ak U (An U (Ac U (qA (Aq (AE ?_)))))))));refine Ad (Ae U (Ba U U (An U (qA (Bz U (Ad (AA U (BX U (An U ?_)))))))));refine qA (Au _ U ?_ ?_)
    .intro h2;replace h2:=Cz h2;have hn:HV A J=none:=by cases hn:HV A J <;> simp_all
     have ho2:LD A J0=(xs.map (fun x=>x.2.1),J):=by
      rw[hop,show J0.size+1 - xs.length=(J0.size - xs.length)+1 by omega,T7 _ hn,qa3]
     refine Ad (Am U (Aj U (Bx U (Ak U (Ac U (qA (Ax (AL (Ao (AL (Ao (AL (CX (v1:=(.pointer _)) (v2:=(.slice _ _ _)) (v3:=(.int _ _)) U U U U U ?_)))))))))))));refine⟨H.ext,.inr ⟨hr,b49,a,xs.length,c,rfl,?_,?_,?_⟩⟩
     .exact(H.own _ (qaf ..)).elim (fun h=>by cases h) id
     .rw[<-hJ0e,ho2];exact H.get at0
     .rw[<-hJ0e,ho2];refine⟨⟨xs,OS.rd1 (f:=fun x:SB => .slice x.1 x.2.1.length x.2.2) O (fun x hx=>H.blk x (qax _ hx)),rfl,fun x hm=>(hxs x hm).1,?_,fun x hm=>(hxs x hm).2.2⟩,(qaj _).symm,O.le⟩
      cases a with
      |none=>exact .inl (qa4 (by have h8:=O.le;have h9:=O.none' rfl;omega))
      |some q=>exact .inr ((H.own (q.block,_) (qax _ (qaa.2 rfl))).elim (fun h=>by cases h) id)
    .intro h2;replace h2:=C0 h2;obtain⟨s,hn⟩:∃s,HV A J=some s:=by cases hn:HV A J <;> simp_all
     obtain⟨rfl,hR,hsm,hsb⟩:=h13 s hn;have Hold:=H;replace H:=Ctx.startL (fun x hx=>Hold.blk x hx) Hold.nd;have hfit:=Ae8 hn;have hbt:=Et s.length;refine Ap (AF (Aa (Ad (Aj U (Aj U (BJ [.slice a13 s.length c13] (.slice a13 s.length c13) EX Gh UF U U U U H ?_))))));rintro b67 w3 - H;refine BO (L:=[(b49,Bl TJ (JB bd J))]) EX EX Gh Ag4 UF U U U H O U (by simp[Bi]) ?_;rintro a68 c68 full68 w4 H O;refine Ak U (qA (Av (Am U (Aj U (AP AX U (Ai qB (Vq (H.get at0) hJ s.length hfit) U ?_))))));rintro v w5 ⟨rfl,hj5,hx5⟩;replace H:=H.turn at0 _ hx5 hj5;refine Ab (AF (Aa ?_));have hgood:=hJ.passes hq hfit;have hlx:(xs++[((a13,s,c13):SB)]).length=xs.length+1:=by simp
     have hsz2:=hx2.size
     have hids:∀(x:SB),RdS w2 x->(x.2.1=[]\/∀y∈[(b49,Bl TJ (JB bd J))]++ent a 24 full,y.1≠(adr x.1).block) ->
       RdS w5 x/\(x.2.1=[]\/∀y∈[(b49,Bl TJ (JB bd (J.passes s.length)))]++ent a68 24 full68,y.1≠(adr x.1).block):=fun x hx hn=>by
      rcases hn with hn|hn
      .exact⟨⟨by rw[hn];exact Rd.nil,hx.2⟩,.inl hn⟩
      .refine⟨⟨hx.1.ext H.ext fun hm=>?_,hx.2⟩,?_⟩
       .obtain⟨y,hy,he⟩:=qah.1 hm;exact hn y hy he
       .rcases Go.Proofs.YtcpgbcabmcbclaaGreatDoor.Rd.lt8 hx.1 with h0|hlt
        .exact .inl h0
        .refine .inr fun y hy he=>?_
         rcases H.own y hy with hm|hm
         .obtain⟨y',hy',he'⟩:=qah.1 hm;exact hn y' hy' (he'.trans he)
         .omega
     refine⟨(xs++[(a13,s,c13)],J.passes s.length,a68,c68,full68),rfl,⟨rfl,qab (fun m=>Value.slice a68 m c68) hlx.symm,trivial⟩,⟨hgood.1,hgood.2,hfr,hsz,?_,?_,Ctx.nil_app (Ctx.back (L2:=[]) (Ctx.app_nil Hold) H),?_,fun x hm=>?_⟩,?_⟩
     .show(xs++[((a13,s,c13):SB)]).length<=J.taken+blk s.length;omega
     .dsimp only;rw[hop,hlx,show J0.size+1 - xs.length=(J0.size+1 - (xs.length+1))+1 by omega,T8 _ hn,qaz,qa1];rfl
     .dsimp only;rw[hlx,qaz];exact O
     .dsimp only at hm |-
      rcases qau.1 hm with hm|hm
      .exact⟨(hids x (hxs x hm).1 (hxs x hm).2.1).1,(hids x (hxs x hm).1 (hxs x hm).2.1).2,(hxs x hm).2.2⟩
      .rw[qaa.1 hm];have h8:=hids _ hR (hsb.imp id fun h y hy he=>by have:=hlt1 y hy;dsimp only at he;omega);exact⟨h8.1,h8.2,hsb.imp id fun h=>by dsimp only;omega⟩
     .show J0.size - (J.taken+blk s.length)<J0.size - J.taken;omega
theorem Akd{w:World}{bd:Nat}{A:Dev}{F:Nat->Prop}(f z p:Int)(q:Nat)(hm:A.B.length<=4096)(ho:A.on=true){mx:Nat}(hfew:Few A mx)(hmx:mx<=1000000000)(DA:DevAt w bd A F)(hf: -9223372036854775808<=f/\f<=9223372036854775807:=by omega)(hz: -9223372036854775808<=z/\z<=9223372036854775807:=by omega):
  Ret prog 34 #[ptr bd,.int .i64 f,.int .i64 z,.int .i64 p,.int .u64 (q:Int)] w fun v w'=>Ext [] w w'/\((Ew A.B.length f z p q=false/\v=.tuple #[.pointer none,.slice none 0 0,.int .i64 1]) \/
   (Ew A.B.length f z p q=true/\∃bj a n c,v=.tuple #[ptr bj,.slice a n c,.int .i64 0]/\w.heap.size<=bj/\w'.heap[bj]?=some (Bl TJ (JB bd (LD A (jr0 f z p q)).2))/\Strs w' a n c (LD A (jr0 f z p q)).1)) :=
 (Vr f z p q hf hz hm ho hfew hmx DA).mono fun _ _ ⟨hx,h⟩=>⟨hx,h.imp id fun⟨h1,bj,a,n,c,hv,hb,hj,hs⟩=>⟨h1,bj,a,n,c,hv,hb,hj,hs.strs⟩⟩
structure Rj where
 L:List Byt
 size:Nat
 first:Nat
 seq:Nat
def T5:Nat:=0
def RjB(a:Option Addr)(n c:Nat)(R:Rj):List Value:=[.slice a n c,.int .i64 (R.size:Int),.int .i64 (R.first:Int),.int .u64 (R.seq:Int)]
def BD(L:List Byt):Nat:=(L.map fun s=>blk s.length).sum
theorem HW(L:List Byt)(s:Byt):BD (L++[s])=BD L+blk s.length:=by simp[BD]
theorem Kx(L:List Byt):2*L.length<=BD L:=by
 induction L with
 |nil=>simp[BD]
 |cons s L ih =>
  have:=Et s.length;have h:BD (s::L)=blk s.length+BD L:=by simp[BD]
  rw[h,qaw];omega
theorem Aam(A B:List Byt):BD (A++B)=BD A+BD B:=by simp[BD]
theorem Yu(L:List Byt)(i:Nat):BD (L.take i)<=BD L:=by
 have h:=Aam (L.take i) (L.drop i);rw[qbj]at h;omega
theorem Amu(n:Nat):n<=480*blk n:=by unfold blk;omega
structure Rj.Ok(R:Rj):Prop where
 s1:2<=R.size
 s2:R.size<=4096
 a:R.first<R.size
 q:R.seq<=8000000000000000000
 t:BD R.L<=R.size
def valS(x:SB):Value := .slice x.1 x.2.1.length x.2.2
structure RjR(w:World)(br:Nat)(R:Rj)(a:Option Addr)(c:Nat)(full:List Value)(xs:List SB):Prop where
 hd:w.heap[br]?=some (Bl T5 (RjB a R.L.length c R))
 os:OS a xs.length c 1 full (xs.map valS)
 blk:∀y∈ent a 24 full,w.heap[y.1]?=some y.2
 eq:xs.map (fun x=>x.2.1)=R.L
 str:∀x∈xs,RdS w x
 nd:∀y∈ent a 24 full,br≠y.1
 sep:∀x∈xs,x.2.1=[]\/((adr x.1).block≠br/\∀y∈ent a 24 full,y.1≠(adr x.1).block)
theorem RjR.num{w:World}{br:Nat}{R:Rj}{a:Option Addr}{c:Nat}{full:List Value}{xs:List SB}(h:RjR w br R a c full xs):xs.length=R.L.length:=by rw[<-h.eq,qaj]
def RjAt(w:World)(br:Nat)(R:Rj)(G:Nat->Prop):Prop :=
 ∃a c full xs,RjR w br R a c full xs/\G br/\(∀y∈ent a 24 full,G y.1)/\∀x∈xs,x.2.1=[]\/G (adr x.1).block
theorem RjAt.keep{w w':World}{br:Nat}{R:Rj}{G:Nat->Prop}{S:List Nat}(h:RjAt w br R G)(hx:Ext S w w')(hn:∀x∈S,¬G x):RjAt w' br R G:=by
 obtain⟨a,c,full,xs,h,h1,h2,h3⟩:=h;have hb:∀b o,G b->w.heap[b]?=some o->w'.heap[b]?=some o:=fun b o hg hb=>by rw[hx.block b (Al hb) fun hm=>hn b hm hg];exact hb
 refine⟨a,c,full,xs,⟨hb _ _ h1 h.hd,h.os,fun y hy=>hb _ _ (h2 y hy) (h.blk y hy),h.eq,fun x hm=>?_,h.nd,h.sep⟩,h1,h2,h3⟩;refine⟨?_,(h.str x hm).2⟩
 rcases h3 x hm with h0|h0
 .rw[h0];exact Rd.nil
 .exact(h.str x hm).1.ext hx fun hm'=>hn _ hm' h0
theorem RjAt.hd{w:World}{br:Nat}{R:Rj}{G:Nat->Prop}(h:RjAt w br R G):∃a c xs,w.heap[br]?=some (Bl T5 (RjB a R.L.length c R))/\Rd w a 1 Ai3 xs/\xs.map (fun x=>x.2.1)=R.L/\(∀x∈xs,RdS w x)/\R.L.length<=c :=
 let ⟨a,c,_,xs,h,_⟩:=h;⟨a,c,xs,h.hd,OS.rd1 (f:=valS) h.os h.blk,h.eq,h.str,by have:=h.os.le;rw[h.num]at this;exact this⟩
def Rj.at'(R:Rj):Nat:=(R.first+BD R.L) % R.size
theorem RjAt.mono{w:World}{br:Nat}{R:Rj}{G G':Nat->Prop}(h:RjAt w br R G)(hG:∀x,G x->G' x):RjAt w br R G' :=
 let ⟨a,c,full,xs,h,h1,h2,h3⟩:=h;⟨a,c,full,xs,h,hG _ h1,fun y hy=>hG _ (h2 y hy),fun x hx=>(h3 x hx).imp id (hG _)⟩
def TA(R:Rj)(b:Byt):Rj:=if R.size - BD R.L<blk b.length then R else{ R with L:=R.L++[b] }
def Yv(R:Rj)(b:Byt):Int:=if R.size - BD R.L<blk b.length then 7 else 0
theorem W0{R:Rj}(h:R.Ok)(b:Byt):(TA R b).Ok:=by
 unfold TA
 split
 .exact h
 .rename_i h1
  exact⟨h.s1,h.s2,h.a,h.q,by have:=h.t;show BD (R.L++[b])<=R.size;rw[HW];omega⟩
def Rj.forget(R:Rj):Rj:=⟨[],R.size,R.at',R.seq+R.L.length⟩
theorem QN{a i n:Nat}(ha:a<n)(hi:i<n):(a+i) % n=if a+i<n then a+i else a+i - n:=by
 split
 .exact qa9 (by assumption)
 .rw[Nat.mod_eq_sub_mod (by omega),qa9 (by omega)]
theorem PD{J:Jr}(h:J.Ok){i j:Nat}(he:J.place i=J.place j)(hi:i<J.size:=by omega)(hj:j<J.size:=by omega):i=j:=by
 unfold Jr.place at he;rw[QN h.a hi,QN h.a hj]at he;have:=h.a
 split at he <;> split at he <;> omega
structure Pend(A:Dev)(N:Nat)(S:Nat->Byt)(P:Nat->List Byt):Prop where
 len:A.B.length=N
 get:∀p,p<N->A.B[p]?=some (S p,P p)
theorem Pend.at'{A:Dev}{N:Nat}{S:Nat->Byt}{P:Nat->List Byt}(h:Pend A N S P){p:Nat}(hp:p<N):at' A p=(P p).getLast?.getD (S p):=by
 unfold Go.Proofs.YtcpgbcabmcbclaaGreatDoor.at' stands;rw[qa8,h.get p hp];rfl
theorem Pend.less{A:Dev}{N:Nat}{S:Nat->Byt}{P:Nat->List Byt}(h:Pend A N S P):Pend A.less N S P:=⟨by rw[Gs];exact h.len,by rw[Gs];exact h.get⟩
theorem W1{A:Dev}(h:A.left≠0)(ho:A.on=true):A.less.on=true/\A.less.left=(if A.left = -1 then -1 else A.left - 1):=by
 unfold Dev.less;rw[if_neg h]
 split
 .rename_i h1;exact⟨ho,h1⟩
 .exact⟨ho,rfl⟩
theorem Yw{A:Dev}(h:A.left=0):A.less.on=false:=by
 unfold Dev.less;rw[if_pos h]
theorem Pend.write{A:Dev}{N:Nat}{S:Nat->Byt}{P:Nat->List Byt}(h:Pend A N S P)(ho:A.on=true){p:Nat}(hp:p<N){b:Byt}(hb:b.length=512) :
  (A.left=0/\Dt A p b=8/\(CE A p b).on=false/\Pend (CE A p b) N S P) \/
  (A.left≠0/\Dt A p b=0/\(CE A p b).on=true/\(CE A p b).left=(if A.left = -1 then -1 else A.left - 1)/\Pend (CE A p b) N S (fun q=>if q=p then P q++[b]else P q)):=by
 have hh:A.has (p:Int)=true:=by
  unfold Dev.has;rw[h.len];simp only[qao,qap];omega
 unfold Dt CE;rw[ho,hh,qal hb];unfold Dev.goes
 by_cases h0:A.left=0
 .rw[qal h0];exact .inl ⟨h0,rfl,Yw h0,h.less⟩
 .rw[qag h0];obtain⟨h1,h2⟩:=W1 h0 ho;refine .inr ⟨h0,rfl,h1,h2,?_,fun q hq=>?_⟩
  .show(A.less.B.modify p _).length=N;rw[qei,Gs];exact h.len
  .show(A.less.B.modify p _)[q]?=_;rw[qcq,Gs,h.get q hq]
   by_cases hqp:q=p
   .rw[if_pos hqp];simp[hqp.symm]
   .rw[if_neg hqp];simp[Ne.symm hqp]
theorem Pend.flush{A:Dev}{N:Nat}{S:Nat->Byt}{P:Nat->List Byt}(h:Pend A N S P)(ho:A.on=true) :
  (A.left=0/\Du A=8/\(Cp A).on=false/\Pend (Cp A) N S P) \/
  (A.left≠0/\Du A=0/\(Cp A).on=true/\(Cp A).left=(if A.left = -1 then -1 else A.left - 1)/\Pend (Cp A) N (fun q=>(P q).getLast?.getD (S q)) (fun _=>[])):=by
 unfold Du Cp;rw[ho];unfold Dev.goes
 by_cases h0:A.left=0
 .rw[qal h0];exact .inl ⟨h0,rfl,Yw h0,h.less⟩
 .rw[qag h0];obtain⟨h1,h2⟩:=W1 h0 ho;refine .inr ⟨h0,rfl,h1,h2,?_,fun q hq=>?_⟩
  .show(A.less.B.map _).length=N;rw[qaj,Gs];exact h.len
  .show(A.less.B.map _)[q]?=_;rw[qat,Gs,h.get q hq];rfl
theorem JW:∀{l:List (Byt × List Byt)} {picks:List Int} {p:Nat} {q:Byt × List Byt},l[p]?=some q->∃y,(Es l picks)[p]?=some (y,[])/\(y=q.1\/y∈q.2)
 | [],_,_,_,h=>by simp at h
 |x::l,picks,0,q,h=>by
  have hx:x=q:=by simpa using h
  subst hx;unfold Es
  split
  .exact⟨x.1,rfl,.inl rfl⟩
  .refine⟨_,rfl,?_⟩;unfold Pj
   split
   .exact .inl U
   .rw[qa8]
    cases hx:x.2[MO x picks - 1]? with
    |none=>exact .inl rfl
    |some b=>exact .inr (qad hx)
 |x::l,picks,p+1,q,h=>by
  have h':l[p]?=some q:=by simpa using h
  unfold Es
  split
  .exact JW h'
  .exact JW h'
theorem Pend.on{A:Dev}{N:Nat}{S:Nat->Byt}{P:Nat->List Byt}(h:Pend A N S P)(ho:A.on=false)(picks:List Int) :
  (onD A picks).on=true/\(onD A picks).left = -1/\∃S',Pend (onD A picks) N S' (fun _=>[])/\∀p,p<N->S' p=S p\/S' p∈P p:=by
 unfold onD;rw[ho];refine⟨rfl,rfl,fun p=>((Es A.B picks).getD p (zeros,[])).1,⟨?_,fun p hp=>?_⟩,fun p hp=>?_⟩
 .show(Es A.B picks).length=N;rw[GM];exact h.len
 .obtain⟨y,hy,_⟩:=JW (picks:=picks) (h.get p hp);show(Es A.B picks)[p]?=_;rw[qa8,hy];rfl
 .obtain⟨y,hy,h1⟩:=JW (picks:=picks) (h.get p hp);show((Es A.B picks).getD p (zeros,[])).1=_\/((Es A.B picks).getD p (zeros,[])).1∈_;rw[qa8,hy];exact h1
theorem Pend.new(n:Nat):Pend (Fu n) n (fun _=>zeros) (fun _=>[]) :=
 ⟨by simp[Fu],fun p hp=>by show(List.replicate n _)[p]?=_;rw[qeh,if_pos hp]⟩
def piB(J:Jr)(b:Byt)(i:Nat):Byt:=DT 1 (CY J.seq i (C1 b i))
def enB(J:Jr)(b:Byt):Byt:=DT 2 (Hk J.seq b)
theorem Acv(J:Jr)(b:Byt)(i:Nat):(CY J.seq i (C1 b i)).length<=505:=by rw[Nt,Nu];omega
theorem Acw(J:Jr)(b:Byt):(Hk J.seq b).length<=505:=by rw[Yl];omega
theorem Amv(J:Jr)(b:Byt)(i:Nat):(piB J b i).length=512:=FF (Acv J b i)
theorem Amw(J:Jr)(b:Byt):(enB J b).length=512:=FF (Acw J b)
structure Full(N:Nat)(S S':Nat->Byt)(J:Jr)(b:Byt):Prop where
 piece:∀i,i<blk b.length - 1->S' (J.place i)=piB J b i
 fin:S' (J.place (blk b.length - 1))=enB J b
 rest:∀p,p<N->(∀i,i<blk b.length->p≠J.place i)->S' p=S p
def MidJ(N:Nat)(S S':Nat->Byt)(J:Jr)(b:Byt):Prop:=∀p,p<N->S' p=S p\/∃i,i<blk b.length - 1/\p=J.place i/\S' p=piB J b i
def PSpec(J:Jr)(b:Byt)(m:Nat)(P:Nat->List Byt):Prop:=(∀i,i<m->P (J.place i)=[piB J b i])/\∀p,(∀i,i<m->p≠J.place i)->P p=[]
theorem PSpec.mid{N:Nat}{S S':Nat->Byt}{J:Jr}{b:Byt}{m:Nat}{P:Nat->List Byt}(h:PSpec J b m P)(hm:m<=blk b.length - 1)(hS:∀p,p<N->S' p=S p\/S' p∈P p):MidJ N S S' J b:=by
 intro p hp
 rcases hS p hp with h1|h1
 .exact .inl h1
 .by_cases hi:∃i,i<m/\p=J.place i
  .obtain⟨i,hi,rfl⟩:=hi;rw[h.1 i hi]at h1;exact .inr ⟨i,by omega,rfl,qaa.1 h1⟩
  .rw[h.2 p fun i h2 h3=>hi ⟨i,h2,h3⟩]at h1;cases h1
theorem Acx{A:Dev}{N:Nat}{S:Nat->Byt}{J:Jr}{b:Byt}(h:Pend A N S (fun _=>[]))(ho:A.on=true)(hl : -1<=A.left)(hJ:J.Ok)(hN:J.frm+J.size<=N):∀m,m<=J.size ->
  ((wrP A J b m).1=0/\(wrP A J b m).2.on=true /\ -1<=(wrP A J b m).2.left/\(A.left = -1->(wrP A J b m).2.left = -1)/\∃P,Pend (wrP A J b m).2 N S P/\PSpec J b m P) \/
  (A.left ≠ -1/\(wrP A J b m).1=8/\(wrP A J b m).2.on=false/\∃m' P,m'<=m/\Pend (wrP A J b m).2 N S P/\PSpec J b m' P)
 |0,_ => .inl ⟨rfl,ho,hl,id,fun _=>[],h,⟨fun i hi=>absurd hi (qc3 _),fun _ _=>rfl⟩⟩
 |m+1,hm=>by
  have h9:wrP A J b (m+1)=if(wrP A J b m).1=0 then(Ow (wrP A J b m).2 J m 1 (CY J.seq m (C1 b m)),Kv (wrP A J b m).2 J m 1 (CY J.seq m (C1 b m)))else wrP A J b m:=rfl
  rcases Acx h ho hl hJ hN m (by omega)with⟨h1,h2,h3,h4,P,hp,hs⟩|⟨h1,h2,h3,m',P,hm',hp,hs⟩
  .rw[h9,if_pos h1];have hpl:=hJ.place m
   rcases hp.write h2 (p:=J.place m) (by omega) (Amv J b m)with⟨k1,k2,k3,k4⟩|⟨k1,k2,k3,k4,k5⟩
   .exact .inr ⟨fun h5=>by have:=h4 h5;omega,k2,k3,m,P,by omega,k4,hs⟩
   .refine .inl ⟨k2,k3,?_,fun h5=>?_,_,k5,fun i hi=>?_,fun p hn=>?_⟩
    .show -1<=(CE _ _ _).left;rw[show(CE (wrP A J b m).2 ((J.place m:Nat):Int) (DT 1 (CY J.seq m (C1 b m)))).left=_ from k4]
     split <;> omega
    .show(CE _ _ _).left = -1;rw[show(CE (wrP A J b m).2 ((J.place m:Nat):Int) (DT 1 (CY J.seq m (C1 b m)))).left=_ from k4,if_pos (h4 h5)]
    .by_cases him:i=m
     .subst him;dsimp only;rw[if_pos rfl,hs.2 _ fun j hj he=>by have:=PD hJ he;omega];rfl
     .dsimp only;rw[if_neg fun he=>him (PD hJ he)];exact hs.1 i (by omega)
    .dsimp only;rw[if_neg (hn m (by omega))];exact hs.2 p fun i hi=>hn i (by omega)
  .rw[h9,if_neg (by omega)];exact .inr ⟨h1,h2,h3,m',P,by omega,hp,hs⟩
theorem TE{A:Dev}{N:Nat}{S:Nat->Byt}{J:Jr}{b:Byt}(h:Pend A N S (fun _=>[]))(ho:A.on=true)(hl : -1<=A.left)(hJ:J.Ok)(hN:J.frm+J.size<=N)(hf:blk b.length<=J.size) :
  ((CZ A J b).1=0/\(CZ A J b).2.on=true /\ -1<=(CZ A J b).2.left/\(A.left = -1->(CZ A J b).2.left = -1)/\∃S',Pend (CZ A J b).2 N S' (fun _=>[])/\Full N S S' J b) \/
  (A.left ≠ -1/\(CZ A J b).1=8/\(CZ A J b).2.on=false/\∃S1 P,Pend (CZ A J b).2 N S1 P/\∀S',(∀p,p<N->S' p=S1 p\/S' p∈P p)->MidJ N S S' J b\/Full N S S' J b):=by
 have hb2:=Et b.length;unfold CZ
 rcases Acx (b:=b) h ho hl hJ hN (blk b.length - 1) (by omega)with⟨h1,h2,h3,h4,P,hp,hs⟩|⟨h1,h2,h3,m',P,hm',hp,hs⟩
 .rw[if_pos h1];generalize wrP A J b (blk b.length - 1)=X at h1 h2 h3 h4 hp
  rcases hp.flush h2 with⟨k1,k2,k3,k4⟩|⟨k1,k2,k3,k4,k5⟩
  .rw[if_neg (by omega)];exact .inr ⟨fun h5=>by have:=h4 h5;omega,k2,k3,S,P,k4,fun S' hS => .inl (hs.mid (qae _) hS)⟩
  .rw[if_pos k2];have hpl:=hJ.place (blk b.length - 1);obtain⟨S1,hS1⟩:=qD (fun q=>(P q).getLast?.getD (S q):Nat->Byt);rw[<-hS1]at k5;have hpi:∀i,i<blk b.length - 1->S1 (J.place i)=piB J b i:=fun i hi=>by rw[hS1];dsimp only;rw[hs.1 i hi];rfl
   have hre:∀p,(∀i,i<blk b.length - 1->p≠J.place i)->S1 p=S p:=fun p hp=>by rw[hS1];dsimp only;rw[hs.2 p hp];rfl
   have hmid1:∀p,S1 p=S p\/∃i,i<blk b.length - 1/\p=J.place i/\S1 p=piB J b i:=fun p=>by
    by_cases hi:∃i,i<blk b.length - 1/\p=J.place i
    .obtain⟨i,hi,rfl⟩:=hi;exact .inr ⟨i,hi,rfl,hpi i hi⟩
    .exact .inl (hre p fun i h2 h3=>hi ⟨i,h2,h3⟩)
   have hl1:(Cp X.2).left = -1\/0<=(Cp X.2).left:=by rw[k4];split <;> omega
   have hl2:A.left = -1->(Cp X.2).left = -1:=fun h5=>by rw[k4,if_pos (h4 h5)]
   generalize Cp X.2=Y at k3 k4 k5 hl1 hl2
   rcases k5.write k3 (p:=J.place (blk b.length - 1)) (by omega) (Amw J b)with⟨j1,j2,j3,j4⟩|⟨j1,j2,j3,j4,j5⟩
   .rw[if_neg (show ¬Ow Y J (blk b.length - 1) 2 (Hk J.seq b)=0 from by rw[show Ow Y J (blk b.length - 1) 2 (Hk J.seq b)=8 from j2];decide)];refine .inr ⟨fun h5=>by have:=hl2 h5;omega,j2,j3,S1,_,j4,fun S' hS => .inl fun p hp=>?_⟩
    rcases hS p hp with h5|h5
    .rw[h5];exact hmid1 p
    .cases h5
   .rw[if_pos (show Ow Y J (blk b.length - 1) 2 (Hk J.seq b)=0 from j2)]
    have hl3:(Kv Y J (blk b.length - 1) 2 (Hk J.seq b)).left = -1\/0<=(Kv Y J (blk b.length - 1) 2 (Hk J.seq b)).left:=by
     rw[show(Kv Y J (blk b.length - 1) 2 (Hk J.seq b)).left=_ from j4];split <;> omega
    have hl4:A.left = -1->(Kv Y J (blk b.length - 1) 2 (Hk J.seq b)).left = -1:=fun h5=>by
     rw[show(Kv Y J (blk b.length - 1) 2 (Hk J.seq b)).left=_ from j4,if_pos (hl2 h5)]
    have j3':(Kv Y J (blk b.length - 1) 2 (Hk J.seq b)).on=true:=j3;have j5':Pend (Kv Y J (blk b.length - 1) 2 (Hk J.seq b)) N S1 (fun q=>if q=J.place (blk b.length - 1)then[]++[enB J b]else[]):=j5;generalize Kv Y J (blk b.length - 1) 2 (Hk J.seq b)=Z at hl3 hl4 j3' j5'
    have hfull:∀S':Nat->Byt,(∀p,p<N->p≠J.place (blk b.length - 1)->S' p=S1 p)->S' (J.place (blk b.length - 1))=enB J b->Full N S S' J b:=fun S' e1 e2=>by
     refine⟨fun i hi=>?_,e2,fun p hp hn=>?_⟩
     .have:=hJ.place i;rw[e1 _ (by omega) fun he=>by have:=PD hJ he;omega];exact hpi i hi
     .rw[e1 p hp (hn _ (by omega))];exact hre p fun i hi=>hn i (by omega)
    rcases j5'.flush j3' with⟨i1,i2,i3,i4⟩|⟨i1,i2,i3,i4,i5⟩
    .refine .inr ⟨fun h5=>by have:=hl4 h5;omega,i2,i3,S1,_,i4,fun S' hS=>?_⟩
     by_cases he:S' (J.place (blk b.length - 1))=S1 (J.place (blk b.length - 1))
     .refine .inl fun p hp=>?_
      have h6:S' p=S1 p:=by
       by_cases hpe:p=J.place (blk b.length - 1)
       .rw[hpe];exact he
       .rcases hS p hp with h5|h5
        .exact h5
        .rw[if_neg hpe]at h5;cases h5
      rw[h6];exact hmid1 p
     .refine .inr (hfull S' (fun p hp hpe=>?_) ?_)
      .rcases hS p hp with h5|h5
       .exact h5
       .rw[if_neg hpe]at h5;cases h5
      .rcases hS _ (show J.place (blk b.length - 1)<N by omega)with h5|h5
       .exact absurd h5 he
       .rw[if_pos rfl]at h5;exact qaa.1 h5
    .refine .inl ⟨i2,i3,by rw[i4];split <;> omega,fun h5=>by rw[i4,if_pos (hl4 h5)],_,i5,hfull _ (fun p hp hpe=>?_) ?_⟩
     .rw[if_neg hpe];rfl
     .rw[if_pos rfl];rfl
 .rw[if_neg (by omega)];exact .inr ⟨h1,h2,h3,S,P,hp,fun S' hS => .inl (hs.mid hm' hS)⟩
end Go.Proofs.YtcpgbcabmcbclaaGreatDoor
