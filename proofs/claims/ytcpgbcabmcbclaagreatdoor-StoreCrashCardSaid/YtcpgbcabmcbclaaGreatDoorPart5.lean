/- Part 5 of the proof. -/
import Derived.Test.YtcpgbcabmcbclaaGreatDoorPart4
set_option maxRecDepth 20000
set_option maxHeartbeats 4000000
namespace Go.Proofs.YtcpgbcabmcbclaaGreatDoor
open Go.GV Go.Proofs.Tryz
attribute [local irreducible] AB W Wq Wt
theorem Ad5{xs ys:List Int}(hx:xs.Pairwise (·<·))(hy:ys.Pairwise (·<·))(h:∀k,k∈xs↔k∈ys):xs=ys:=by
 induction xs generalizing ys with
 |nil =>
  cases ys with
  |nil=>rfl
  |cons y ys=>exact absurd ((h y).2 (qaf ..)) (by simp)
 |cons x xs ih =>
  cases ys with
  |nil=>exact absurd ((h x).1 (qaf ..)) (by simp)
  |cons y ys =>
   rw[qbh]at hx hy
   have hxy:x=y:=by
    have h1:=(h x).1 (qaf ..);have h2:=(h y).2 (qaf ..);rw[qac]at h1 h2
    rcases h1 with h1|h1
    .exact h1
    .rcases h2 with h2|h2
     .exact h2.symm
     .have:=hy.1 x h1;have:=hx.1 y h2;omega
   subst hxy
   congr 1
   refine ih hx.2 hy.2 fun k=>?_;have h1:=h k;rw[qac,qac]at h1;constructor
   .intro hk
    rcases h1.1 (.inr hk)with h2|h2
    .have:=hx.1 k hk;omega
    .exact h2
   .intro hk
    rcases h1.2 (.inr hk)with h2|h2
    .have:=hy.1 k hk;omega
    .exact h2
def Lk(B:List (Byt × List Byt)):List Nat:=(List.range B.length).filter fun i => !(B.getD i ([],[])).2.isEmpty
theorem Ue{m:List (Int × Value)}(nd:(m.map (·.1)).Nodup):(Dg m).Pairwise (·<·):=by
 have h1:(Dg m).Pairwise fun x y=>decide (x<=y)=true:=qfc (by intro a b c;simp;omega) (by intro a b;simp;omega) _;have h2:(Dg m).Nodup:=(qce _ _).nodup_iff.2 nd;rw[qdo]at h2;exact(h1.and h2).imp fun⟨h3,h4⟩=>by rw[qap]at h3;omega
theorem DevR.keys_eq{w:World}{bd:Nat}{A:Dev}{role:Nat->Nat}{bs bm:Nat}{sv:List Value}{m:List (Int × Value)}{o:Obj}(D:DevR w bd A role bs bm sv m o):Dg m=(Lk A.B).map Int.ofNat:=by
 refine Ad5 (Ue D.nd) ?_ fun k=>?_
 .rw[qbs];exact(List.pairwise_lt_range.filter _).imp fun h=>by simpa using h
 .constructor
  .intro hk;obtain⟨v,hv⟩:=FH hk;obtain⟨i,rfl,hi⟩:=D.keys k v hv;obtain⟨p,hp⟩:∃p,A.B[i]?=some p:=⟨_,qbd hi⟩;have hne:=(D.part i p hp).2.2.1 (by rw[hv];rfl);refine qah.2 ⟨i,qbk.2 ⟨qdc.2 hi,?_⟩,rfl⟩;rw[qa8,hp]
   simpa using hne
  .intro hk;obtain⟨i,hi,rfl⟩:=qah.1 hk;rw[Lk,qbk,qdc]at hi;obtain⟨p,hp⟩:∃p,A.B[i]?=some p:=⟨_,qbd hi.1⟩;rw[qa8,hp]at hi;obtain⟨v,hv⟩:=qdh.1 ((D.part i p hp).2.2.2 (by simpa using hi.2));exact Nk hv
theorem ZO(B:List (Byt × List Byt))(q:Nat)(hq:q<=B.length:=by omega):NZ (B.take q)=((List.range q).filter fun i => !(B.getD i ([],[])).2.isEmpty).length:=by
 induction q with
 |zero=>rfl
 |succ q ih =>
  obtain⟨p,hp⟩:∃p,B[q]?=some p:=⟨_,qbd (by omega)⟩;rw[Bp hp,Ad4,ih (by omega),List.range_succ,qbq,qan,qbm,qa8,hp]
  by_cases h:p.2=[]
  .simp[h]
  .simp[h]
theorem Ad6{B:List (Byt × List Byt)}{i q:Nat}(h:(Lk B)[i]?=some q):i=NZ (B.take q):=by
 have hm:=qad h;rw[Lk,qbk,qdc]at hm;obtain⟨hq,hne⟩:=hm;rw[ZO B q]
 have hsp:Lk B=((List.range q).filter fun i => !(B.getD i ([],[])).2.isEmpty)++q::((List.range' (q+1) (B.length - q - 1)).filter fun i => !(B.getD i ([],[])).2.isEmpty):=by
  have hr:List.range B.length=List.range q++q::List.range' (q+1) (B.length - q - 1):=by
   have h1:List.range B.length=List.range' 0 q++List.range' (0+1*q) (B.length - q):=by
    rw[List.range'_append,List.range_eq_range'];congr 1;omega
   rw[h1,List.range_eq_range']
   congr 1
   obtain⟨n,hn⟩:∃n,B.length - q=n+1:=⟨B.length - q - 1,by omega⟩;rw[hn,List.range'_succ];simp
  rw[Lk,hr,qbq,qbm,if_pos hne]
 have hnd:(Lk B).Pairwise (·<·):=List.pairwise_lt_range.filter _;have h2:(Lk B)[((List.range q).filter fun i => !(B.getD i ([],[])).2.isEmpty).length]?=some q:=by rw[hsp];simp
 obtain⟨hi,h3⟩:=qaq.1 h;obtain⟨hj,h4⟩:=qaq.1 h2;rw[qb9]at hnd
 rcases Nat.lt_trichotomy i ((List.range q).filter fun i => !(B.getD i ([],[])).2.isEmpty).length with h5|h5|h5
 .have:=hnd i _ hi hj h5;omega
 .exact h5
 .have:=hnd _ i hj hi h5;omega
theorem DevR.key_at{w:World}{bd:Nat}{A:Dev}{role:Nat->Nat}{bs bm:Nat}{sv:List Value}{m:List (Int × Value)}{o:Obj}(D:DevR w bd A role bs bm sv m o){i q:Nat}(h:(Dg m)[i]?=some (q:Int)):i=NZ (A.B.take q):=by
 rw[D.keys_eq,qat,qey]at h;obtain⟨q',h1,h2⟩:=h
 have:q'=q:=Int.ofNat.inj h2
 subst this;exact Ad6 h1
theorem SL:∀(B:List (Byt × List Byt)) (picks:List Int) {i:Nat} {p:Byt × List Byt},B[i]?=some p->(Es B picks)[i]?=some (if p.2=[]then(p.1,[])else(Pj p (MO p (picks.drop (NZ (B.take i)))),[]))
 | [],_,i,p,h=>by simp at h
 |b::B,picks,0,p,h=>by
  simp only[qc7,qbb]at h;subst h;unfold Es
  by_cases hb:b.2=[]
  .rw[if_pos hb,if_pos hb];rfl
  .rw[if_neg hb,if_neg hb];rfl
 |b::B,picks,i+1,p,h=>by
  have ih:=SL B;unfold Es;rw[qek]
  by_cases hb:b.2=[]
  .rw[if_pos hb,qez,ih picks (by simpa using h)]
   congr 6
   simp[NZ,hb]
  .rw[if_neg hb,qez,ih picks.tail (by simpa using h)]
   congr 4
   rw[show NZ (b::B.take i)=NZ (B.take i)+1 by simp[NZ,hb]];cases picks <;> simp
theorem Ai0{α:Type}{l:List α}{i:Nat}{x:α}(h:l[i]?=some x):l.set i x=l:=by
 apply qci;intro j;rw[qc6]
 by_cases hj:i=j
 .subst hj;rw[if_pos rfl,if_pos (qaq.1 h).1,h]
 .rw[if_neg hj]
theorem DevR.picked{w:World}{bd:Nat}{A:Dev}{role:Nat->Nat}{bs bm:Nat}{sv:List Value}{m:List (Int × Value)}{o:Obj}(D:DevR w bd A role bs bm sv m o)(x:Nat->Nat) :
  ∃f:Nat->Value,∀i p,A.B[i]?=some p->p.2≠[]->x i<=p.2.length->SureAt w role (f i) (Pj p (x i))/\(x i=0->sv[i]?=some (f i))/\(0<x i->BytesAt w role (f i) (Pj p (x i))/\∃al n c fl vs,EV m (i:Int)=some (.slice al n c)/\OS al n c 1 fl vs/\n=p.2.length/\(∀y∈ent al 24 fl,w.heap[y.1]?=some y.2/\role y.1=5+i)/\vs[x i - 1]?=some (f i)):=by
 have h:∀i:Nat,∃v,∀p,A.B[i]?=some p->p.2≠[]->x i<=p.2.length->SureAt w role v (Pj p (x i))/\(x i=0->sv[i]?=some v)/\(0<x i->BytesAt w role v (Pj p (x i))/\∃al n c fl vs,EV m (i:Int)=some (.slice al n c)/\OS al n c 1 fl vs/\n=p.2.length/\(∀y∈ent al 24 fl,w.heap[y.1]?=some y.2/\role y.1=5+i)/\vs[x i - 1]?=some v):=fun i=>by
  by_cases hp:∃p,A.B[i]?=some p/\p.2≠[]/\x i<=p.2.length
  .obtain⟨p,hp,hne,hx⟩:=hp;obtain⟨⟨sv0,hs0,hs1⟩,⟨al,n,c,fl,vs,hv,O,hent,hvs⟩,hiff⟩:=D.part i p hp
   by_cases h0:x i=0
   .refine⟨sv0,fun p' hp' _ _=>?_⟩;rw[hp]at hp';cases hp';exact⟨by rw[h0];exact hs1,fun _=>hs0,fun h=>absurd h (by omega)⟩
   .have hn:n=vs.length:=by have:=O.llen;omega
    have hvl:=hvs.1;obtain⟨b,hb⟩:=AO (l:=p.2) (i:=x i - 1);obtain⟨v,hvv⟩:=AO (l:=vs) (i:=x i - 1)
    have hst:Pj p (x i)=b:=by
     rw[Pj,if_neg h0,qa8,hb];rfl
    refine⟨v,fun p' hp' _ _=>?_⟩;rw[hp]at hp';cases hp';have hB:BytesAt w role v (Pj p (x i)):=by rw[hst];exact hvs.2 _ _ _ hvv hb
    refine⟨.inr hB,fun h=>absurd h h0,fun _=>⟨hB,al,n,c,fl,vs,?_,O,by omega,hent,hvv⟩⟩;obtain⟨u,hu⟩:=qdh.1 (hiff.2 hne);rw[hu]at hv |-;rw[<-hv];rfl
  .exact⟨.nilFunc,fun p h1 h2 h3=>absurd ⟨p,h1,h2,h3⟩ hp⟩
 exact⟨fun i=>Classical.choose (h i),fun i=>Classical.choose_spec (h i)⟩
theorem Al6{w:World}{bd:Nat}{A:Dev}{F:Nat->Prop}(a:Option Addr)(c n:Nat)(picks:List Int)(R:Rd w a 1 (fun x:Int=>[.int .i64 x]) picks)(hn:picks.length=n)(hm:n<=9223372036854775000)(hc:n<=c)(hFa:picks=[]\/¬F (adr a).block)(hi64:∀x∈picks,-9223372036854775808<=x/\x<=9223372036854775807){mx:Nat}(hfew:Few A mx)(hmx:mx<=1000000000000)(DA:DevAt w bd A F) :
  Ret prog 18 #[ptr bd,.slice a n c] w fun v w'=>v=.int .i64 (onE A)/\DevAt w' bd (onD A picks) F/\Turn F w w':=by
 subst hn;obtain⟨w0,rfl⟩:=qD w;obtain⟨role,bs,bm,sv,m,o,D,hF⟩:=DA;have H:=Ctx.start w0 [];refine JI (fn:=Tryz.f18) func18 U [.pointer (some ⟨bd,0,none⟩),.slice a picks.length c] U ?_;refine Ad (Cn _ (.pointer _) U U H ?_);rintro b2 w - H;refine Cn _ (.slice _ _ _) U U H ?_;rintro b3 w - H;refine Ac U (qA (Aq (AE (Ad (AH Dn U H at1 U (BW MM U ?_))))));refine An U (qA (Bz U (Ad (AH Dn U H at1 U (A8 U (Af Mf U (Be Gf U (Ctx.old0 H (Ar D.hd _)) ?_)))))));refine BX U (An U (qA (Au _ U ?_ ?_)))
 .intro h1;replace h1:=Cz h1;have ho:A.on=true:=by cases h:A.on <;> simp_all
  refine Ad (Ac U (qA (Ax (AL (Ao (NE (v:=(.int _ _)) U U ?_))))));exact⟨by rw[onE,ho];rfl,by rw[onD,ho];exact⟨role,bs,bm,sv,m,o,D.keep0 H.ext,hF⟩,.of0 H.ext⟩
 .intro h1;replace h1:=C0 h1;have ho:A.on=false:=by cases h:A.on <;> simp_all
  have hb2:=H.get at1;have hb3:=H.get at0;have ho2:w0.heap.size<=b2:=(H.own _ (qai _ (qaf ..))).elim (fun h=>by cases h) id;have ho3:w0.heap.size<=b3:=(H.own _ (qaf ..)).elim (fun h=>by cases h) id;have hb23:b3≠b2:=H.ne at0 at1 (by decide);have hx00:=H.ext;have D1:=D.keep0 H.ext;refine Ap (AF (Aa (Aq (Ad (AH Dn U H at1 U (Ai qB (UP bd _) U ?_))))));rintro v w ⟨bx,rfl,hbx,hbxn,hx17⟩;refine qA (AE ?_);have D2:=D1.keep0 hx17;have hb2L:w.heap[b2]?=some (Bl 27 [ptr bd]):=by rw[hx17.block b2 (Al hb2) (by simp)];exact hb2
  have hb3L:w.heap[b3]?=some (Bl 40 [.slice a picks.length c]):=by rw[hx17.block b3 (Al hb3) (by simp)];exact hb3
  obtain⟨xq,hxq⟩:=qD (fun q=>MO (A.B.getD q ([],[])) (picks.drop (NZ (A.B.take q))):Nat->Nat);obtain⟨f,hf⟩:=D2.picked xq;refine HK U qB ?_;intro fn tmps hts htm Db l w2 hDb hl hx2 hD hrec;have D3:=D2.keep0 hx2;have up2:∀{b:Nat} {o:Obj},w.heap[b]?=some o->w2.heap[b]?=some o:=fun{b o} g=>by rw[hx2.block b (Al g) (by simp)];exact g
  obtain⟨lo,hlo,hrec'⟩:∃lo,lo=_/\w2.heap[l]?=some (.loop lo):=⟨_,rfl,hrec⟩;have hhi:=D3.wf.hi;have hlen:m.length<=4096:=qav D3.few hhi;have hbs0:=D.lt bs (by rw[D.rs];decide);have hbs2:=D2.lt bs (by rw[D2.rs];decide);have hbd1:=D2.lt bd (by rw[D2.rd];decide);have hbm1:=D2.lt bm (by rw[D2.rm];decide);have hbdo:=D.lt bd (by rw[D.rd];decide);have hbmo:=D.lt bm (by rw[D.rm];decide);have hbxL:=Al hbx;have hb3s:=Al hb3L;have hw1:=Al hb3;have hbsl:bs≠l:=by omega
  have hbxs:bx≠bs:=by omega
  have hbx3:bx≠b3:=by omega
  have hbds:bd≠bs:=fun h=>by have h1:=D3.rd;rw[h,D3.rs]at h1;omega
  have hbms:bm≠bs:=fun h=>by have h1:=D3.rm;rw[h,D3.rs]at h1;omega
  have hx02:Ext [] w0 w2:=(H.ext.trans hx17).trans hx2
  refine Ret.mono (SH (l:=l) (up2 hbx) D3.hd D3.hm D3.hM D3.nd hlen (fun p hp=>by have:=D3.bound p hp;omega)
   (fun wK i w'=>w'.heap[l]?=some (.loop lo)/\Ext [bs,b3,l] wK w'/\w'.heap[bs]?=some (Bl 24 (laid f sv ((Dg m).take i))) /\
    ∃a' c',w'.heap[b3]?=some (Bl 40 [.slice a' (picks.drop i).length c'])/\Rd w0 a' 1 (fun x:Int=>[.int .i64 x]) (picks.drop i)/\(picks.drop i).length<=c'/\(adr a').block=(adr a).block) ?_ ?_ ?_) ?_
  .intro wK hx;refine⟨by rw[hx.block l (Al hrec') (by simp)];exact hrec',.refl _ _,?_,a,c,?_,R,hc,rfl⟩
   .rw[hx.block bs (Al D3.hs) (by simp)];exact D3.hs
   .rw[hx.block b3 (Al (up2 hb3L)) (by simp)];exact up2 hb3L
  .rintro wK i w' hx ⟨h1,h2,h3,h4⟩
   have e1:∀{b:Nat} {o:Obj},w.heap[b]?=some o->b≠bs->b≠b3->w'.heap[b]?=some o:=fun{b o} g1 g2 g4=>by
    have g3:b≠l:=by have:=Al g1;omega
    rw[h2.block b (qas (Al (up2 g1)) hx.size) (by simp[g2,g3,g4]),hx.block b (Al (up2 g1)) (by simp)];exact up2 g1
   refine⟨e1 hbx hbxs hbx3,⟨bs,_,_,e1 D2.hd hbds (by omega)⟩,e1 D2.hm hbms (by omega),_,h2,fun x h=>?_⟩;simp only[qac,qam,or_false]at h
   rcases h with rfl|rfl|rfl
   .exact Al D3.hs
   .exact Al (up2 hb3L)
   .exact Al hrec'
  .rintro wK i k v w' hxK hk hv ⟨h1,h2,h3,a',c',h4,R',hc',ha'⟩;obtain⟨q,rfl,hq⟩:=D3.keys _ v hv;obtain⟨p,hp⟩:∃p,A.B[q]?=some p:=⟨_,qbd hq⟩;have hne:p.2≠[]:=(D3.part q p hp).2.2.1 (by rw[hv];rfl);have hiq:=D3.key_at hk;have hxv:xq q=MO p (picks.drop i):=by rw[hxq,hiq];dsimp only;rw[qa8,hp];rfl
   have hxle:xq q<=p.2.length:=by
    rw[hxv];unfold MO
    split
    .exact qak _
    .exact Nat.le_of_lt_succ (qbl _ (Nat.succ_pos _))
   obtain⟨hsu,hz0,hby⟩:=hf q p hp hne hxle;obtain⟨_,⟨al0,nl,cl0,fl0,vs0,hv0,O0,_,hvs0⟩,_⟩:=D2.part q p hp;rw[hv]at hv0;have hv0:v=.slice al0 nl cl0:=hv0;have hnl:nl=p.2.length:=by have:=O0.llen;have:=hvs0.1;omega
   subst hv0;have hpl:=hfew p (qad hp);subst hlo;refine KW h1 U (II _ (NY hts htm) ?_);refine Ad (Ac U (qA (Av (Ak U (Ab (Lj h1 U ?_))))));intro wR lo2 hxR hlR hlo2;have hb3l:b3≠l:=by omega
   have eR:∀{b:Nat} {o:Obj},w.heap[b]?=some o->b≠bs->b≠b3->wR.heap[b]?=some o:=fun{b o} g1 g2 g4=>by
    have g3:b≠l:=by have:=Al g1;omega
    have g4:w'.heap[b]?=some o:=by
     rw[h2.block b (qas (Al (up2 g1)) hxK.size) (by simp[g2,g3,g4]),hxK.block b (Al (up2 g1)) (by simp)];exact up2 g1
    rw[hxR.block b (Al g4) (by simpa using g3)];exact g4
   have hx0R:Ext [bs,b3,l] w0 wR:=((hx02.trans hxK).mono (by simp)).trans (h2.trans (hxR.mono (by simp)))
   have hRok:picks.drop i≠[]->(adr a').block∉[bs,b3,l]:=fun hne=>by
    have hne':picks≠[]:=fun h=>hne (by rw[h];simp)
    have hlt:(adr a').block<w0.heap.size:=by
     cases hd:picks.drop i with
     |nil=>exact absurd hd hne
     |cons x xs =>
      have h9:=World.block_lt_of_cell? w0 ⟨(adr a').block,_,none⟩ (R'.cell 0 x (by rw[hd];rfl) 0 _ rfl (by decide));exact h9
    have hnF:=hFa.resolve_left hne'
    have:(adr a').block≠bs:=fun h=>hnF (by rw[<-ha',h];exact hF bs (by rw[D.rs];decide))
    simp only[qac,qam,or_false];omega
   have RR:Rd wR a' 1 (fun x:Int=>[.int .i64 x]) (picks.drop i):=by
    by_cases hne:picks.drop i=[]
    .rw[hne];exact Rd.nil
    .exact R'.ext hx0R (hRok hne)
   have hbdR:=eR D2.hd hbds (by omega);have hb2R:=eR hb2L (by omega) (Ne.symm hb23);have hb3R:wR.heap[b3]?=some (Bl 40 [.slice a' (picks.drop i).length c']):=by rw[hxR.block b3 (Al h4) (by simpa using hb3l)];exact h4
   have hbsR:wR.heap[bs]?=some (Bl 24 (laid f sv ((Dg m).take i))):=by rw[hxR.block bs (Al h3) (by simpa using hbsl)];exact h3
   have hlv:(laid f sv ((Dg m).take i)).length=sv.length:=NX ..;have hsvl:=D3.len;refine AE (Ad (Ac U (qA (Aq (Ad (Be IJ U (Ar hb3R 0) ?_))))));refine AP FB U (BZ U U (qA (EZ 17163092096 (α:=Unit) (fun _=>[(7,.int .i64 (xq q:Int))]) (fun _ w5=>Ext [bs,b3,l] wR w5/\(∀x o,wR.heap[x]?=some o->x≠b3->w5.heap[x]?=some o)/\∃a' c',w5.heap[b3]?=some (Bl 40 [.slice a' (picks.drop (i+1)).length c'])/\Rd w0 a' 1 (fun x:Int=>[.int .i64 x]) (picks.drop (i+1))/\(picks.drop (i+1)).length<=c'/\(adr a').block=(adr a).block) U ?_ ?_)))
   .skip
    refine Au _ U ?_ ?_
    .intro g1;replace g1:=AV g1;obtain⟨x,hx0⟩:=AO (l:=picks.drop i) (i:=0)
     have hxx:picks.drop i=x::picks.drop (i+1):=by
      cases hd:picks.drop i with
      |nil=>rw[hd]at hx0;cases hx0
      |cons y ys =>
       rw[hd]at hx0;cases hx0;rw[<-qdq,hd];rfl
     have hxi:=hi64 x (qcy (by rw[hxx];exact qaf ..));have HT:∀x,Ext [] wR x->Ctx wR [] x []:=fun x hx=>(Ctx.start wR []).call hx;have hdl:(picks.drop i).length=(picks.drop (i+1)).length+1:=by rw[hxx];rfl
     refine Kg [([0,1,2,3,4,5,6,7,8,9,10],11)] (fun x=>Ext [] wR x) [11] mixed (Ext.drew _ wR) (AC U U ?_);refine BG IJ U (fun _ hx=>hx.cell (Ar hb3R 0) (by simp)) (Cr RR FB Hv U U (hn:=by rfl) ?_);refine BG DW U (fun _ hx=>(RR.ext0 hx).one (f:=fun x => .int .i64 x) hx0) (Aoo U U U ?_);refine BF U (Qb EX U (Fk U U ?_));refine Anp U U U (BG IJ U (fun _ hx=>hx.cell (Ar hb3R 0) (by simp)) ?_);refine Gp FB Hv U U (Uz U U (AU ?_))
     skip
     refine Bf (.slice _ _ _) Sq U U U (Ctx.start1 (show(World.drew wR).heap[b3]?=_ from hb3R)) at0 (Nat.succ_pos _) ?_;rintro wE HE;refine Ab (De U (B1 (Aa ?_)));refine⟨(),rfl,⟨?_,trivial⟩,(Ext.drew _ _).trans (HE.ext.mono (by simp)),fun y o h hy=>by rw[HE.ext.block y (Al h) (by simpa using hy)];exact h,EL a' c' 1 1,c' - 1,?_,?_,?_,?_⟩
     .show Value.int .i64 _=_;rw[hxv,hxx,<-Aiz,hnl]
     .rw[HE.get at0,hdl];rfl
     .have h9:=R'.cut 1 c' hc'
      rwa [qdq]at h9
     .omega
     .rw[<-ha'];unfold EL;split
      .rfl
      .cases a' <;> rfl
    .intro g1;replace g1:=AW g1;have hd0:picks.drop i=[]:=List.length_eq_zero_iff.1 (by omega);refine Ap (Aa ?_);have hd1:picks.drop (i+1)=[]:=by rw[<-qdq,hd0];rfl
     refine⟨(),rfl,⟨?_,trivial⟩,.refl _ _,fun _ _ h _=>h,a',c',?_,?_,?_,ha'⟩
     .show Value.int .i64 0=_;rw[hxv,hd0];rfl
     .rw[hd1,<-hd0];exact hb3R
     .rw[hd1];exact Rd.nil
     .rw[hd1];exact qak _
   .rintro - j7 w5 ⟨hx5,hs5,a6,c6,h6,R6,hc6,ha6⟩;have e5:∀{b:Nat} {o:Obj},w.heap[b]?=some o->b≠bs->b≠b3->w5.heap[b]?=some o:=fun{b o} g1 g2 g3=>hs5 _ _ (eR g1 g2 g3) g3;have hb25:=e5 hb2L (by omega) (Ne.symm hb23);have hbd5:=e5 D2.hd hbds (by omega);have hbs5:=hs5 _ _ hbsR (by omega);have hl5:=hs5 _ _ hlR (Ne.symm hb3l);refine Ad (Ae U (BZ U U (qA (Au _ U ?_ ?_))))
    .intro g1;replace g1:=AV g1;have hgt:0<xq q:=by omega
     obtain⟨hB,al,n9,c9,fl,vs,hv9,O,hnn,hent,hlast⟩:=hby hgt;rw[hv]at hv9;cases hv9
     have Rl:Rd w5 al0 1 (fun v:Value=>[v]) vs:=OS.rdV O fun x hx=>by
      have hlt:=Al (hent x hx).1;refine e5 (hent x hx).1 (fun h=>by have:=(hent x hx).2;rw[h,D3.rs]at this;omega) fun h=>?_;have h7:=(hent x hx).2;have:=D.lt x.1 (by omega);omega
     have hvn:nl=vs.length:=by have:=O.llen;omega
     obtain⟨a8,c8,hfq,_⟩:=hB;rw[hfq]at hlast;have HT:∀x,Ext [] w5 x->Ctx w5 [] x []:=fun x hx=>(Ctx.start w5 []).call hx;refine Kg [([0,1,2,3,4,5,6,7,8,9,10],11)] (fun x=>Ext [] w5 x) [11] mixed (Ext.drew _ w5) (AC U U ?_);refine BG Dn U (fun _ hx=>hx.cell (Ar hb25 0) (by simp)) ?_;refine Bg U (AD NL U (BG U9 U (fun _ hx=>hx.cell (Ar hbd5 (0+0)) (by simp)) ?_));refine B9 U (BF U (B9 U (Iu U U U ?_)));rw[show((xq q:Int) - 1)=((xq q - 1:Nat):Int)by omega];refine Cr Rl EX Gh U U (BG B4 U (fun _ hx=>(Rl.ext0 hx).one (f:=fun v=>v) hlast) ?_);refine KT U EX Gh U U (AU ?_)
     skip
     refine Bf (.slice _ _ _) Gh U U U (Ctx.start1 (show(World.drew w5).heap[bs]?=_ from hbs5)) at0 (by omega) ?_;rintro wE HE;refine Ab (De U (B1 (AF ?_)));have hlE:wE.heap[l]?=some (.loop lo2):=by rw[HE.ext.block l (Al hl5) (by simp;omega)];exact hl5
     refine IA hlE hlo2 U U ?_;intro wF hxF hlF;refine⟨rfl,hlF,(h2.trans (hxR.mono (by simp))).trans (hx5.trans ((Ext.drew _ _).trans ((HE.ext.mono (by simp)).trans (hxF.mono (by simp))))),?_,a6,c6,?_,R6,hc6,ha6⟩
     .rw[hxF.block bs (Al (HE.get at0)) (by simpa using hbsl),HE.get at0,Bp hk,Pp];simp only[qbo,qa2,qcj,hfq]
     .have h7:wE.heap[b3]?=some (Bl 40 [.slice a6 (picks.drop (i+1)).length c6]):=by rw[HE.ext.block b3 (Al h6) (by simp;omega)];exact h6
      rw[hxF.block b3 (Al h7) (by simpa using hb3l)];exact h7
    .intro g1;replace g1:=AW g1;have hz9:xq q=0:=by omega
     refine Ap (AF (IA hl5 hlo2 U U ?_));intro wF hxF hlF;refine⟨rfl,hlF,(h2.trans (hxR.mono (by simp))).trans (hx5.trans (hxF.mono (by simp))),?_,a6,c6,?_,R6,hc6,ha6⟩
     .rw[hxF.block bs (Al hbs5) (by simpa using hbsl),hbs5,Bp hk,Pp,qbo,Ai0];rw[SK f sv _ (fun k hk=>by obtain⟨v,hv⟩:=FH (qbp hk);obtain⟨j,rfl,_⟩:=D2.keys k v hv;omega) (by rw[D2.len];exact hq),hz0 hz9]
      split <;> rfl
     .rw[hxF.block b3 (Al h6) (by simpa using hb3l)];exact h6
  .rintro v w3 ⟨wK,hxK,hl3,hx3,hs3,_⟩;rw[<-Nj m,qbe]at hs3;refine⟨_,hl3,by subst hlo;exact(fun h=>by cases h),HS (by rw[hlo]) ?_⟩;have hx4:=Ext.setB w3 l (.loop { lo with state := .exhausted });generalize w3.putObj l (.loop { lo with state := .exhausted })=w4 at hx4 |-;refine AF (Aa ?_);have hz:Ext [bd,bs,bm,b3] w w4:=(((hx2.trans hxK).mono (by simp)).then hx3 (by intro x h;simp only[qac,qam,or_false]at h |-;omega)).then hx4 (by intro x h;simp only[qac,qam,or_false]at h |-;omega)
   have up4:∀{b:Nat} {o:Obj},w.heap[b]?=some o->b≠bs->b≠b3->w4.heap[b]?=some o:=fun{b o} g1 g2 g4=>by
    have g3:b≠l:=by have:=Al g1;omega
    rw[hx4.block b (qas (Al (up2 g1)) (qav hxK.size hx3.size)) (by simpa using g3),hx3.block b (qas (Al (up2 g1)) hxK.size) (by simp[g2,g3,g4]),hxK.block b (Al (up2 g1)) (by simp)];exact up2 g1
   have hD4:w4.heap[Db]?=some (.deferred (some [])):=by
    have g3:Db≠l:=by omega
    have g2:Db≠bs:=by omega
    have g4:Db≠b3:=by omega
    rw[hx4.block Db (qas (Al hD) (qav hxK.size hx3.size)) (by simpa using g3),hx3.block Db (qas (Al hD) hxK.size) (by simp[g2,g3,g4]),hxK.block Db (Al hD) (by simp)];exact hD
   have hs4:w4.heap[bs]?=some (Bl 24 (laid f sv (Dg m))):=by
    rw[hx4.block bs (Al hs3) (by simpa using hbsl)];exact hs3
   have hb24:=up4 hb2L (by omega) (Ne.symm hb23);have hd4:=up4 D2.hd hbds (by omega);have H4:=Ctx.start1 (up4 D2.hm hbms (by omega));refine Ad (Be Dn U (Ar hb24 _) ?_);refine A8 U (Af Ko U (Be Sc U (Ar hd4 _) ?_));refine WQ U UC U H4 at0 D2.hM ?_;rintro o' w5 hM' H5;refine qA ?_;have hbdm:bd≠bm:=fun h=>by have h1:=D3.rd;rw[h,D3.rm]at h1;omega
   have hb25:w5.heap[b2]?=some (Bl 27 [ptr bd]):=by rw[H5.ext.block b2 (Al hb24) (by simp;omega)];exact hb24
   have hd5:w5.heap[bd]?=some (Bl TD (DB A.B.length bs bm A.left A.on)):=by rw[H5.ext.block bd (Al hd4) (by simpa using hbdm)];exact hd4
   replace H:=Ctx.start1 hd5;have HT:∀x,Ext [bd] w5 x->Ctx w5 [bd] x []:=fun x hx=>⟨hx,by simp,List.Pairwise.nil,by simp⟩;refine BR [([0,1,2,3],4),([5,6],7)] (fun x=>Ext [bd] w5 x) [] mixed (Ext.drew _ w5) (AC U U ?_);refine BG Dn U (fun _ hx=>hx.cell (Ar hb25 0) (by simp;omega)) ?_;refine BG Dn U (fun _ hx=>hx.cell (Ar hb25 0) (by simp;omega)) ?_;refine Bg U (AD Mf U (AU ?_));replace H:=H.drew;refine Bf (.bool _) Ah8 U U U H at0 (by(simp;done)) ?_;rintro w H;refine Ab (Bc (H.ext) (AC U U ?_));refine Bg U (AD NM U (AU (Bf (.int _ _) Hv U U U H at0 (by(simp;done)) ?_)));rintro w H;refine Ab (Bc (H.ext) (B1 (Ad (Ac U (qA (Ax (NE (v:=(.int _ _)) U U ?_)))))));refine⟨Db,rfl,by rw[H.ext.block Db (qas (Al hD4) H5.ext.size) (by simp;omega),H5.ext.block Db (Al hD4) (by simp;omega)];exact hD4,?_⟩
   have hxD:=Ext.setB w Db (.deferred none);generalize w.putObj Db (.deferred none)=w6 at hxD |-;have hz5:=hz.then H5.ext (fun x h => .inl (by rw[qaa.1 h];simp));have hz5':=hz5.then H.ext (fun x h => .inl (by rw[qaa.1 h];simp));have hz6:=hz5'.then hxD (fun x h=>by have h9:x=Db:=qaa.1 h;right;omega);have hz06:Ext [bd,bs,bm] w0 w6:=((hx00.trans hx17).mono (by simp)).then hz6 (by intro x h;simp only[qac,qam,or_false]at h |-;omega)
   have up6:∀{b:Nat} {o:Obj},w5.heap[b]?=some o->b≠bd->b≠Db->w6.heap[b]?=some o:=fun{b o} g1 g2 g3=>by
    rw[hxD.block b (qas (Al g1) H.ext.size) (by simpa using g3),H.ext.block b (Al g1) (by simpa using g2)];exact g1
   refine⟨by rw[onE,ho];rfl,?_,?_⟩
   .rw[onD,ho];refine⟨role,bs,bm,laid f sv (Dg m),[],o',D.swept (A':=⟨Es A.B picks,-1,true⟩) hz06 (GM ..) ?_ (up6 (by rw[H5.ext.block bs (Al hs4) (by simp;omega)];exact hs4) (Ne.symm hbds) (by omega)) (up6 (H5.get at0) (Ne.symm hbdm) (by omega)) hM' (by rw[NX,D2.len]) ?_ (by have h9:=on_wf D.wf picks;rwa [onD,ho]at h9),hF⟩
    .rw[show(Dev.B ⟨Es A.B picks,-1,true⟩).length=A.B.length from GM ..,hxD.block bd (Al (H.get at0)) (by simp;omega)];exact H.get at0
    .intro i p hp;have hi:i<A.B.length:=by have:=(qaq.1 hp).1;rwa [GM]at this
     obtain⟨p0,hp0⟩:∃p0,A.B[i]?=some p0:=⟨_,qbd hi⟩;have hp:(Es A.B picks)[i]?=some p:=hp;rw[SL A.B picks hp0]at hp;cases hp
     have hr4:∀x∈[bd,bs,bm,b3],role x≠4:=by
      intro x h;simp only[qac,qam,or_false]at h
      rcases h with rfl|rfl|rfl|rfl
      .rw[D2.rd];decide
      .rw[D2.rs];decide
      .rw[D2.rm];decide
      .intro h9;have:=D.lt x (by omega);omega
     rw[SK f sv _ (fun k hk=>by obtain⟨v,hv⟩:=FH hk;obtain⟨j,rfl,_⟩:=D2.keys k v hv;omega) (by rw[D2.len];exact hi)];have hpart:=D2.part i p0 hp0
     by_cases hne:p0.2=[]
     .rw[if_pos hne,if_neg (fun hin=>by obtain⟨v,hv⟩:=FH hin;exact hpart.2.2.1 (by rw[hv];rfl) hne)];obtain⟨v,h1,h2⟩:=hpart.1;exact⟨rfl,v,h1,h2.keep hz6 hr4 fun _ h=>h⟩
     .obtain⟨v,hv⟩:=qdh.1 (hpart.2.2.2 hne);rw[if_neg hne,if_pos (Nk hv)];have hxv:xq i=MO p0 (picks.drop (NZ (A.B.take i))):=by rw[hxq];dsimp only;rw[qa8,hp0];rfl
      have hxle:xq i<=p0.2.length:=by
       rw[hxv];unfold MO
       split
       .exact qak _
       .exact Nat.le_of_lt_succ (qbl _ (Nat.succ_pos _))
      refine⟨rfl,_,rfl,?_⟩;have h9:=(hf i p0 hp0 hne hxle).1;rw[hxv]at h9;exact h9.keep hz6 hr4 fun _ h=>h
   .refine .of hz06 fun x h=>hF x ?_;simp only[qac,qam,or_false]at h
    rcases h with rfl|rfl|rfl
    .rw[D2.rd];decide
    .rw[D2.rs];decide
    .rw[D2.rm];decide
structure Own(w0 w:World)(bd:Nat)(A:Dev)(F:Nat->Prop):Prop where
 ext:Ext [] w0 w
 dev:DevAt w bd A F
 own:∀x,F x->w0.heap.size<=x/\x<w.heap.size
def Grown(F F':Nat->Prop)(w w':World):Prop:=Turn F w w'/\∀x,F' x->F x\/w.heap.size<=x
theorem Turn.new{F:Nat->Prop}{w0 w w':World}(h:Turn F w w')(hx:Ext [] w0 w)(hF:∀x,F x->w0.heap.size<=x):Ext [] w0 w' :=
 let ⟨_,hS,h⟩:=h;hx.then h fun x hx => .inr (hF x (hS x hx))
theorem Own.grow{w0 w w':World}{bd:Nat}{A A':Dev}{F:Nat->Prop}(O:Own w0 w bd A F)(h:DevAt w' bd A' (grow F w w'))(t:Turn F w w'):Own w0 w' bd A' (grow F w w')/\Grown F (grow F w w') w w' :=
 ⟨⟨t.new O.ext fun x h=>(O.own x h).1,h,fun x hx=>by
  have h1:=t.size;have h2:=O.ext.size
  rcases hx with hx|hx
  .have:=O.own x hx;omega
  .omega⟩,t,fun x hx=>hx.elim .inl fun h => .inr h.1⟩
theorem Own.same{w0 w w':World}{bd:Nat}{A A':Dev}{F:Nat->Prop}(O:Own w0 w bd A F)(h:DevAt w' bd A' F)(t:Turn F w w'):Own w0 w' bd A' F/\Grown F F w w' :=
 ⟨⟨t.new O.ext fun x h=>(O.own x h).1,h,fun x hx=>by have h1:=t.size;have:=O.own x hx;omega⟩,t,fun x hx => .inl hx⟩
theorem Own.call{w0 w w':World}{bd:Nat}{A:Dev}{F:Nat->Prop}(O:Own w0 w bd A F)(hx:Ext [] w w'):Own w0 w' bd A F :=
 ⟨O.ext.trans hx,O.dev.keep0 hx,fun x h=>by have:=O.own x h;have:=hx.size;omega⟩
def Rdx(w:World)(F:Nat->Prop)(a:Option Addr)(l:Byt):Prop:=Rd w a 1 B8 l/\(l=[]\/¬F (adr a).block)
theorem Rd.lt8{w:World}{a:Option Addr}{l:Byt}(R:Rd w a 1 B8 l):l=[]\/(adr a).block<w.heap.size:=by
 cases l with
 |nil=>exact .inl rfl
 |cons x l =>
  have h9:=World.block_lt_of_cell? w ⟨(adr a).block,_,none⟩ (R.cell 0 x rfl 0 _ rfl (by decide));exact .inr h9
theorem Rdx.turn{w w':World}{F F':Nat->Prop}{a:Option Addr}{l:Byt}(h:Rdx w F a l)(t:Grown F F' w w'):Rdx w' F' a l:=by
 obtain⟨R,hn⟩:=h
 rcases hn with rfl|hn
 .exact⟨Rd.nil,.inl rfl⟩
 .obtain⟨⟨S,hS,hx⟩,hF⟩:=t;refine⟨R.ext hx fun h=>hn (hS _ h),?_⟩
  rcases Rd.lt8 R with h1|h1
  .exact .inl h1
  .exact .inr fun h=>(hF _ h).elim hn fun h=>by omega
theorem Rdx.call{w w':World}{F:Nat->Prop}{a:Option Addr}{l:Byt}(h:Rdx w F a l)(hx:Ext [] w w'):Rdx w' F a l:=⟨h.1.ext0 hx,h.2⟩
theorem Own.loaded{w0 w w':World}{bd:Nat}{A:Dev}{F:Nat->Prop}{a:Option Addr}{l:Byt}(O:Own w0 w bd A F)(R:Rd w' a 1 B8 l)(hn:l=[]\/w.heap.size<=(adr a).block):Rdx w' F a l :=
 ⟨R,hn.imp id fun h hF=>by have:=O.own _ hF;omega⟩
theorem Own.old{w0 w:World}{bd:Nat}{A:Dev}{F:Nat->Prop}{a:Option Addr}{l:Byt}(O:Own w0 w bd A F)(R:Rd w0 a 1 B8 l):Rdx w F a l :=
 ⟨R.ext0 O.ext,(Rd.lt8 R).imp id fun h hF=>by have:=O.own _ hF;omega⟩
theorem Wi{w0 w:World}{bd:Nat}{A:Dev}{F:Nat->Prop}(O:Own w0 w bd A F)(n:Int)(hn:n<=9223372036854775807:=by omega):
  Ret prog 27 #[ptr bd,.int .i64 n] w fun v w'=>v=.int .i64 (Ni A)/\Own w0 w' bd (IU A n) F/\Grown F F w w' :=
 (Al2 n hn O.dev).mono fun _ _ ⟨hv,hd,ht⟩=>⟨hv,O.same hd ht⟩
theorem Ai1{w0 w:World}{bd:Nat}{A:Dev}{F:Nat->Prop}(O:Own w0 w bd A F)(a:Option Addr)(c n:Nat)(picks:List Int)(R:Rd w a 1 (fun x:Int=>[.int .i64 x]) picks)(hn:picks.length=n)(hm:n<=9223372036854775000)(hc:n<=c)(hFa:picks=[]\/¬F (adr a).block)(hi64:∀x∈picks,-9223372036854775808<=x/\x<=9223372036854775807){mx:Nat}(hfew:Few A mx)(hmx:mx<=1000000000000:=by decide):
  Ret prog 18 #[ptr bd,.slice a n c] w fun v w'=>v=.int .i64 (onE A)/\Own w0 w' bd (onD A picks) F/\Grown F F w w' :=
 (Al6 a c n picks R hn hm hc hFa hi64 hfew hmx O.dev).mono fun _ _ ⟨hv,hd,ht⟩=>⟨hv,O.same hd ht⟩
theorem Al7{w0 w:World}{bd:Nat}{A:Dev}{F:Nat->Prop}(O:Own w0 w bd A F) :
  Ret prog 17 #[ptr bd] w fun v w'=>v=.int .i64 (bif A.on then 0 else 8)/\Own w0 w' bd (MF A) F/\Grown F F w w' :=
 (Al3 O.dev).mono fun _ _ ⟨hv,hd,ht⟩=>⟨hv,O.same hd ht⟩
theorem Ab6{n:Int}(h1:1<=n)(h2:n<=4096)(w:World):Ret prog 9 #[.int .i64 n] w fun v w'=>∃bd F,v=.tuple #[ptr bd,.int .i64 0]/\Own w w' bd (Fu n.toNat) F :=
 (Al4 n w).mono fun _ _ ⟨hx,h⟩=>by
  rcases h with⟨he,_⟩|⟨_,_,_,bd,rfl,hd⟩
  .rw[Aiv,qag (show ¬n<1 by omega),qag (show ¬4096<n by omega)]at he;cases he
  .exact⟨bd,_,rfl,hx,hd,fun x h=>h⟩
abbrev Mut:=Nat->Prop
def Old(w:World):Mut:=fun x=>x<w.heap.size
theorem Pq{w:World}{α:Type}{a:Option Addr}{s:Nat}{enc:α->List Value}{l:List α}(R:Rd w a s enc l)(he:∀x∈l,(enc x).length=s)(hs:0<s:=by decide):l=[]\/(adr a).block<w.heap.size:=by
 cases l with
 |nil=>exact .inl rfl
 |cons x l =>
  have h1:=he x (qaf ..);obtain⟨v,hv⟩:=AO (l:=enc x) (i:=0);exact .inr (World.block_lt_of_cell? w ⟨(adr a).block,_,none⟩ (R.cell 0 x U 0 v hv (by omega)))
theorem Ai2(a:Option Addr)(c i s:Nat):(adr (EL a c i s)).block=(adr a).block:=by
 unfold EL;split
 .rfl
 .cases a with
  |none=>rfl
  |some p =>
   obtain⟨b,o,sp⟩:=p;show(adr (some (Addr.add ⟨b,o,sp⟩ (i*s)))).block=b;unfold Addr.add
   by_cases h:i*s=0 <;> simp[h,adr]
section
variable {w w' w0:World}{M M':Mut}{a:Option Addr}{l:Byt}
theorem Rdx.fresh(R:Rd w' a 1 B8 l)(h:l=[]\/w.heap.size<=(adr a).block):Rdx w' (Old w) a l:=⟨R,h.imp id fun h h2=>by unfold Old at h2;omega⟩
theorem Rdx.weak(h:Rdx w M a l)(hM:∀x,M' x->M x):Rdx w M' a l:=⟨h.1,h.2.imp id fun h h2=>h (hM _ h2)⟩
theorem Rdx.past{w1 w2:World}{S:List Nat}(X:Rdx w (Old w1) a l)(he:Ext S w w2)(hS:∀x∈S,x<w1.heap.size):Rdx w2 (Old w1) a l:=by
 obtain⟨R,hn⟩:=X
 rcases hn with rfl|hn
 .exact⟨Rd.nil,.inl rfl⟩
 .exact⟨R.ext he fun h=>hn (hS _ h),.inr hn⟩
theorem Rdx.nil:Rdx w M none []:=⟨Rd.nil,.inl rfl⟩
end
structure Im where
 ka:Option Addr
 kc:Nat
 va:Option Addr
 vc:Nat
 it:It
def Im.enc(m:Im):List Value:=[.slice m.ka m.it.key.length m.kc,.slice m.va m.it.val.length m.vc,.int .i64 (m.it.page:Int)]
theorem Im.oneE(m:Im):∀v∈m.enc,Bi v=true:=fun v hv=>by
 simp only[Im.enc,qac,qam,or_false]at hv
 rcases hv with rfl|rfl|rfl <;> rfl
structure Im.Ok(w:World)(M:Mut)(m:Im):Prop where
 k:Rdx w M m.ka m.it.key
 v:Rdx w M m.va m.it.val
 kc:m.it.key.length<=m.kc
 vc:m.it.val.length<=m.vc
structure Its(w:World)(M:Mut)(a:Option Addr)(n c:Nat)(L:List It):Prop where
 ex:∃ms:List Im,Rd w a 3 Im.enc ms/\(ms=[]\/¬M (adr a).block)/\ms.map (·.it)=L/\∀m∈ms,m.Ok w M
 num:n=L.length
 le:n<=c
section
variable {w w' w0:World}{M M':Mut}{a:Option Addr}{n c:Nat}{L:List It}{m:Im}
theorem Im.Ok.turn(h:m.Ok w M)(t:Grown M M' w w'):m.Ok w' M':=⟨h.k.turn t,h.v.turn t,h.kc,h.vc⟩
theorem Im.Ok.call(h:m.Ok w M)(hx:Ext [] w w'):m.Ok w' M:=⟨h.k.call hx,h.v.call hx,h.kc,h.vc⟩
theorem Im.Ok.weak(h:m.Ok w M)(hM:∀x,M' x->M x):m.Ok w M':=⟨h.k.weak hM,h.v.weak hM,h.kc,h.vc⟩
theorem Its.nil:Its w M none 0 0 []:=⟨⟨[],Rd.nil,.inl rfl,rfl,fun m h=>by cases h⟩,rfl,qae _⟩
theorem Its.turn(h:Its w M a n c L)(t:Grown M M' w w'):Its w' M' a n c L:=by
 obtain⟨ms,R,hs,hl,hm⟩:=h.ex;refine⟨⟨ms,?_,?_,hl,fun m hx=>(hm m hx).turn t⟩,h.num,h.le⟩
 .rcases hs with rfl|hs
  .exact Rd.nil
  .obtain⟨⟨S,hS,hx⟩,_⟩:=t;exact R.ext hx fun h=>hs (hS _ h)
 .rcases hs with rfl|hs
  .exact .inl U
  .rcases Pq R (fun x _=>rfl)with h0|h0
   .exact .inl h0
   .exact .inr fun h5=>(t.2 _ h5).elim hs fun h6=>by omega
theorem Its.call(h:Its w M a n c L)(hx:Ext [] w w'):Its w' M a n c L:=by
 obtain⟨ms,R,hs,hl,hm⟩:=h.ex;exact⟨⟨ms,R.ext0 hx,hs,hl,fun m hm'=>(hm m hm').call hx⟩,h.num,h.le⟩
theorem Its.weak(h:Its w M a n c L)(hM:∀x,M' x->M x):Its w M' a n c L:=by
 obtain⟨ms,R,hs,hl,hm⟩:=h.ex;exact⟨⟨ms,R,hs.imp id fun h h2=>h (hM _ h2),hl,fun m hm'=>(hm m hm').weak hM⟩,h.num,h.le⟩
theorem Its.take(h:Its w M a n c L){k:Nat}(hk:k<=n):Its w M a k c (L.take k):=by
 obtain⟨ms,R,hs,hl,hm⟩:=h.ex;have hn:=h.num;have hc:=h.le;refine⟨⟨ms.take k,R.take k,hs.imp (fun h=>by rw[h,List.take_nil]) id,by rw[List.map_take,hl],fun m hx=>hm m (qbp hx)⟩,?_,by omega⟩;rw[qa0];omega
theorem Its.drop(h:Its w M a n c L){k:Nat}(hk:k<=n):Its w M (EL a c k 3) (n - k) (c - k) (L.drop k):=by
 obtain⟨ms,R,hs,hl,hm⟩:=h.ex;have hn:=h.num;have hc:=h.le;have hml:ms.length=n:=by rw[hn,<-hl,qaj]
 refine⟨⟨ms.drop k,R.cut k c (by omega),?_,by rw[qd1,hl],fun m hx=>hm m (qcy hx)⟩,?_,by omega⟩
 .rw[Ai2];exact hs.imp (fun h=>by rw[h,List.drop_nil]) id
 .rw[qbg];omega
end
theorem IV{w:World}(a b:Option Addr)(c d n m:Nat)(x y:Byt)(Rx:Rd w a 1 B8 x)(Ry:Rd w b 1 B8 y)(hn:x.length=n)(hm:y.length=m) :
  Ret prog 127 #[.slice a n c,.slice b m d] w fun v w'=>v=.int .i64 (DX x y)/\w=w':=by
 subst hn hm;refine A6 (fn:=f127) func127 U [.slice a x.length c,.slice b y.length d] U (Ad (Ac U (qA (Ad (Aj U (Aj U (Adr (l:=[.slice a x.length c,.slice b y.length d]) (v := .int .i64 (DX x y)) U (by rw[run_callFunc_extern func154 (by kernel_rfl) (by kernel_rfl) (by kernel_rfl) (e:=Extern.BytealgCompare.compare) (by kernel_rfl),VT Rx Ry];rfl) U ?_)))))));refine Ac U (qA (Ax (AG (v:=(.int _ _)) U U U ?_)));exact⟨rfl,rfl⟩
def Cf(L:List It)(key:Byt):Nat:=(L.tail.takeWhile fun x=>decide (DX x.key key<=0)).length
theorem HH{α:Type}{p:α->Bool}:∀{l:List α} {i:Nat},(∀j x,j<i->l[j]?=some x->p x=true)->i<=l.length->(∀x,l[i]?=some x->p x=false)->(l.takeWhile p).length=i
 | [],i,_,hi,_=>by simp at hi;subst hi;rfl
 |x::l,0,_,_,h=>by rw[qc4,h x rfl];rfl
 |x::l,i+1,h,hi,h2=>by
  rw[qc4,h 0 x (by omega) rfl];simp only[if_true,qaw];rw[HH (l:=l) (i:=i) (fun j y hj hy=>h (j+1) y (by omega) hy) (by simpa using hi) fun y hy=>h2 y hy]
theorem Im.at{ms:List Im}{L:List It}(hl:ms.map (·.it)=L){i:Nat}{x:Im}(h:ms[i]?=some x):L[i]?=some x.it:=by rw[<-hl,qat,h];rfl
theorem XB{w:World}{M:Mut}{a:Option Addr}{n c:Nat}{L:List It}(I:Its w M a n c L)(ka:Option Addr)(kc kn:Nat)(key:Byt)(Rk:Rd w ka 1 B8 key)(hk:key.length=kn)(hm:n<=1000000:=by omega):
  Ret prog 182 #[.slice a n c,.slice ka kn kc] w fun v w'=>v=.int .i64 (Cf L key:Int)/\w=w':=by
 subst hk;obtain⟨w0,rfl⟩:=qD w;obtain⟨ms,R,-,hl,hok⟩:=I.ex;have hnum:=I.num;have hml:ms.length=n:=by rw[hnum,<-hl,qaj]
 refine A6 (fn:=f182) func182 U [.slice a n c,.slice ka key.length kc] U ?_;refine Ad (Ac U (qA (Ad (Ac U (qA (Aq (AE (B7 16777184 (α:=Nat) (fun i=>[(5,.int .i64 (i:Int))]) (fun i w'=>w0=w'/\(i=0\/i+1<=n)/\∀j x,j<i->L.tail[j]?=some x->DX x.key key<=0) (fun i=>n - i) 0 U ?_ ?_ ?_))))))))
 .exact⟨rfl,trivial⟩
 .exact⟨rfl,.inl rfl,fun j x h=>absurd h (qc3 _)⟩
 .rintro i j w ⟨rfl,hi,hb⟩;refine Aq (Ad (Ae U (A7 U U ?_)));refine Aj U (AP Bw U (Bn U U (AA U (AR 11 U ?_ ?_))))
  .intro h1;replace h1:=AV h1;obtain⟨x,hx⟩:=AO (l:=ms) (i:=i+1);have hxL:=Im.at hl hx;have hxo:=hok x (qad hx);have hti:L.tail[i]?=some x.it:=by rw[List.getElem?_tail];exact hxL
   refine Aj U (Ae U (A7 U U ?_));refine AY R Bw Bm U U (Af FC U (Be B4 U (R.fld hx U (j:=0) U) ?_));refine Aj U (Ai qB (IV x.ka ka x.kc kc _ _ x.it.key key hxo.k.1 Rk U U) U ?_);rintro v w ⟨rfl,rfl⟩;refine MX U U (AN U (.bool _) U (qA (Au _ U ?_ ?_)))
   .intro h2;replace h2:=AV h2;refine Ap (Aa (AE (Av (Ae U (A7 U U ?_)))));refine Ac U (Ab (AF (Aa ?_)));refine⟨i+1,rfl,⟨rfl,trivial⟩,⟨rfl,.inr (by omega),fun j y hj hy=>?_⟩,by omega⟩
    rcases qbr j i with h3|h3
    .exact hb j y h3 hy
    .obtain rfl:j=i:=by omega
     rw[hti]at hy;cases hy;exact h2
   .intro h2;replace h2:=AW h2;refine B3 (Ay (Ay (Bb (Aa (Ad (Ae U (Ac U (qA (Ax (AG (v:=(.int _ _)) U U U ?_))))))))));refine⟨?_,rfl⟩;rw[Cf,HH (i:=i) (fun j y hj hy=>qal (hb j y hj hy)) (by rw[qe0];omega) fun y hy=>?_];rw[hti]at hy;cases hy;exact qag (by omega)
  .intro h1;replace h1:=AW h1;refine Ag U (Ag U (Ag U (Ag U (Ag U (Ag U (Ag U (Ag U (Ag U (AK U (.bool _) U ?_)))))))));refine qA (Bz U (B3 (Ay (Ay (Bb (Aa (Ad (Ae U (Ac U (qA (Ax (AG (v:=(.int _ _)) U U U ?_))))))))))));refine⟨?_,rfl⟩;rw[Cf,HH (i:=i) (fun j y hj hy=>qal (hb j y hj hy)) (by rw[qe0];omega) fun y hy=>?_];have:=(qaq.1 hy).1;rw[qe0]at this;omega
def bsN(L:List It)(key:Byt)(i j:Nat):Nat :=
 if h:i<j then(if DX ((L[(i+j) / 2]?.map (·.key)).getD []) key<0 then bsN L key ((i+j) / 2+1) j else bsN L key i ((i+j) / 2))else i
termination_by j - i
def CJ(L:List It)(key:Byt):Nat:=bsN L key 0 L.length
def Fv(L:List It)(key:Byt):Bool:=match L[CJ L key]? with|some x=>decide (DX x.key key=0)|none=>false
theorem ZP{L:List It}{key:Byt}{i j:Nat}(h:i<j):bsN L key i j=if DX ((L[(i+j) / 2]?.map (·.key)).getD []) key<0 then bsN L key ((i+j) / 2+1) j else bsN L key i ((i+j) / 2):=by
 rw[bsN,dif_pos h]
theorem Oa{L:List It}{key:Byt}{i j:Nat}(h:j<=i:=by omega):bsN L key i j=i:=by
 rw[bsN,dif_neg (by omega)]
theorem UQ{w:World}{M:Mut}{x:Im}(hx:x.Ok w M)(ka:Option Addr)(kc kn:Nat)(key:Byt)(Rk:Rd w ka 1 B8 key)(hk:key.length=kn) :
  Ret prog 179 #[.agg x.enc.toArray,.slice ka kn kc] w fun v w'=>v=.int .i64 (DX x.it.key key)/\Ext [] w w':=by
 subst hk;obtain⟨w0,rfl,H⟩:=qE w;refine A6 (fn:=f179) func179 U [.agg x.enc.toArray,.slice ka key.length kc] U (Ad (Cn x.enc (.agg _) U U H ?_));rintro b2 w - H;refine Ac U (qA (Ad (Af FC U (AH B4 U H at0 U (Aj U (Ai qB (IV x.ka ka x.kc kc _ _ x.it.key key (hx.k.1.ext0 H.ext) (Rk.ext0 H.ext) U U) U ?_))))));rintro v w ⟨rfl,rfl⟩;refine Ac U (qA (Ax (AG (v:=(.int _ _)) U U U ?_)));exact⟨rfl,H.ext⟩
theorem Ad7{w:World}{M:Mut}{a:Option Addr}{n c:Nat}{L:List It}(I:Its w M a n c L)(ka:Option Addr)(kc kn:Nat)(key:Byt)(Rk:Rd w ka 1 B8 key)(hk:key.length=kn)(hm:n<=1000000) :
  Ret prog 178 #[.slice a n c,.slice ka kn kc,.func (.func 179) #[] #[]] w fun v w'=>v=.tuple #[.int .i64 (CJ L key:Int),.bool (Fv L key)]/\Ext [] w w':=by
 subst hk;obtain⟨w0,rfl⟩:=qD w;obtain⟨ms,R,-,hl,hok⟩:=I.ex;have hnum:=I.num;have hml:ms.length=n:=by rw[hnum,<-hl,qaj]
 refine A6 (fn:=f178) func178 U [.slice a n c,.slice ka key.length kc,.func (.func 179) #[] #[]] U (Ad (Ac U (An U (qA (Ad (Aj U (AP Bw U (Ac U (qA (Ad ?_))))))))));refine Ae U (Ac U (Ac U (qA (Aq (AE (B7 34359709184 (α:=Nat × Nat) (fun s=>[(9,.int .i64 (s.1:Int)),(10,.int .i64 (s.2:Int))]) (fun s w'=>Ext [] w0 w'/\s.1<=s.2/\s.2<=n/\bsN L key s.1 s.2=CJ L key) (fun s=>s.2 - s.1) (0,n) U ?_ ?_ ?_))))))
 .exact⟨rfl,rfl,trivial⟩
 .exact⟨.refl _ _,qak _,qae _,by rw[CJ,<-hnum]⟩
 .rintro⟨i,k⟩ j w ⟨hx,hik,hk,hbs⟩;dsimp only at hx hik hk hbs;dsimp only;refine Aq (Ad (Ae U (Ae U (Bn U U (qA (Au _ U ?_ ?_))))))
  .intro h1;replace h1:=AV h1;obtain⟨h,hh⟩:=qD ((i+k) / 2 ^ 1);have hh2:h=(i+k) / 2:=hh;obtain⟨x,hx5⟩:=AO (l:=ms) (i:=h);have hxL:=Im.at hl hx5;have hxo:=hok x (qad hx5);rw[ZP (by omega),<-hh2,hxL]at hbs;simp only[qbc,qdr]at hbs;refine Ap (Aa (AE (Ad (Ae U (Ae U (A7 U U ?_))))));refine DP U Ge Aod (RH (n:=1) U U U ?_);refine Ej U Aod Ge (Ac U (qA ?_));rw[<-hh];refine Ad (Ee U (.func _ _ _) U ?_);refine Aj U (Ae U (AY R Bw Bm U U ?_));refine EY _ Ds Bm U U ((R.ext0 hx).row hx5 U) (Aj U (KP U U qB (UQ (hxo.call hx) ka kc _ key (Rk.ext0 hx) U) U ?_));rintro v w2 ⟨rfl,hx30⟩;refine Bn U U (qA (Au _ U ?_ ?_))
   .intro h2;replace h2:=AV h2;rw[if_pos h2]at hbs;refine Av (Ae U (A7 U U ?_));refine Ac U (Ab (AF (Aa ?_)));exact⟨(h+1,k),rfl,⟨rfl,rfl,trivial⟩,⟨hx.trans hx30,by dsimp only;omega,hk,hbs⟩,by dsimp only;omega⟩
   .intro h2;replace h2:=AW h2;rw[if_neg (by omega)]at hbs;refine Av (Ae U (Ac U (Ab (AF (Aa ?_)))));exact⟨(i,h),rfl,⟨rfl,rfl,trivial⟩,⟨hx.trans hx30,by dsimp only;omega,by dsimp only;omega,hbs⟩,by dsimp only;omega⟩
  .intro h1;replace h1:=AW h1;rw[Oa]at hbs;refine B3 (Ay (Ay (Bb (Aa (Ad (Ae U (Ae U (Ae U (Bn U U (AA U (AR 39 U ?_ ?_)))))))))))
   .intro h2;replace h2:=AV h2;obtain⟨x,hx5⟩:=AO (l:=ms) (i:=i);have hxL:=Im.at hl hx5;have hxo:=hok x (qad hx5);refine Ee U (.func _ _ _) U (Aj U (Ae U (AY R Bw Bm U U ?_)));refine EY _ Ds Bm U U ((R.ext0 hx).row hx5 U) (Aj U (KP U U qB (UQ (hxo.call hx) ka kc _ key (Rk.ext0 hx) U) U ?_));rintro v w2 ⟨rfl,hx46⟩;refine B6 U U (AN U (.bool _) U (Ac U (An U (qA (Ax (Ce (v1:=(.int _ _)) (v2:=(.bool _)) U U U U ?_))))));refine⟨?_,hx.trans hx46⟩;rw[Fv,<-hbs,hxL]
   .intro h2;replace h2:=AW h2;refine Ag U (Ag U (Ag U (Ag U (Ag U (Ag U (Ag U (Ag U (AK U (.bool _) U (Ac U ?_)))))))));refine An U (qA (Ax (Ce (v1:=(.int _ _)) (v2:=(.bool _)) U U U U ?_)));refine⟨?_,hx⟩;have hnone:L[i]?=none:=qbz (by omega);rw[Fv,<-hbs,hnone]
theorem SM{w:World}{M:Mut}{a:Option Addr}{n c:Nat}{L:List It}(I:Its w M a n c L)(ka:Option Addr)(kc kn:Nat)(key:Byt)(Rk:Rd w ka 1 B8 key)(hk:key.length=kn)(hm:n<=1000000:=by omega):
  Ret prog 146 #[.slice a n c,.slice ka kn kc] w fun v w'=>v=.tuple #[.int .i64 (CJ L key:Int),.bool (Fv L key)]/\Ext [] w w':=by
 subst hk;refine A6 (fn:=f146) func146 U [.slice a n c,.slice ka key.length kc] U (Ad (Ac U (An U (qA (Ad (Aj U (Aj U (Ai qB (Ad7 I ka kc _ key Rk U hm) U ?_))))))));rintro v w2 ⟨rfl,hx8⟩;refine Ah U U (Ah U U (Ac U (An U (qA (Ax (Ce (v1:=(.int _ _)) (v2:=(.bool _)) U U U U ?_))))));exact⟨rfl,hx8⟩
theorem SO{w:World}{M:Mut}(inner:Bool)(a:Option Addr)(n c:Nat){x:Im}(hx:x.Ok w M)(hk:x.it.key.length<=1000000:=by omega)(hv:x.it.val.length<=1000000:=by omega):
  Ret prog 156 #[.agg #[.bool inner,.slice a n c],.agg x.enc.toArray] w fun v w'=>v=.int .i64 (CK inner x.it:Int)/\Ext [] w w':=by
 obtain⟨w0,rfl,H⟩:=qE w;refine A6 (fn:=f156) func156 U [.agg #[.bool inner,.slice a n c],.agg x.enc.toArray] U (Ad (Cn [.bool inner,.slice a n c] (.agg _) U U H ?_));rintro b2 w - H;refine Cn x.enc (.agg _) U U H ?_;rintro b3 w - H;refine Ac U (qA (Aq (Ad (Af DD U (AH Gf U H at1 U (qA (Au _ U ?_ ?_)))))))
 .intro h1;subst h1;refine Ad (Af FC U (AH B4 U H at0 U (AP AX U (A7 U U ?_))));refine Ac U (qA (Ax (Ao (AG (v:=(.int _ _)) U U U ?_))));exact⟨rfl,H.ext⟩
 .intro h1;subst h1;refine Ap (Aa (Ad (Af FC U (AH B4 U H at0 U (AP AX U (A7 U U ?_))))));refine Af Le U (AH B4 U H at0 U (AP AX U (A7 U U ?_)));refine Ac U (qA (Ax (AG (v:=(.int _ _)) U U U ?_)));exact⟨rfl,H.ext⟩
abbrev SB:=Option Addr × Byt × Nat
def Ai3(x:SB):List Value:=[.slice x.1 x.2.1.length x.2.2]
def RdS(w:World)(x:SB):Prop:=Rd w x.1 1 B8 x.2.1/\x.2.1.length<=x.2.2
theorem RdS.ext0{w w':World}{x:SB}(h:RdS w x)(hx:Ext [] w w'):RdS w' x:=⟨h.1.ext0 hx,h.2⟩
def Dw(b:Byt):UInt8:=bif decide (Fd b=0)then GF b else 0
def BC(b:Byt):Byt:=bif decide (Fd b=0)then CR b else[]
theorem Al8{b:Byt}{w w':World}{v:Value}(h:NR b w v w'):∃a c,v=.tuple #[bv (Dw b),.slice a (BC b).length c,.int .i64 (Fd b)]/\Ext [] w w'/\Rd w' a 1 B8 (BC b)/\(BC b).length<=c:=by
 rcases h with⟨h,rfl,hx⟩|⟨h,s,rfl,F⟩
 .exact⟨none,0,by rw[Dw,BC,qag h];rfl,hx,by rw[BC,qag h];exact Rd.nil,by rw[BC,qag h];exact qae _⟩
 .obtain⟨a,c,rfl,R,hc⟩:=Fresh.rdB F;exact⟨a,c,by rw[Dw,BC,h];rfl,F.ext,by rw[BC,h];exact R,by rw[BC,h];exact hc⟩
theorem Pt(b:Byt):(BC b).length<=505:=by
 unfold BC;cases decide (Fd b=0)
 .exact qak _
 .show(CR b).length<=505;unfold CR IR;rw[qa0,qa0];omega
theorem Ai4(k:Nat)(w:World)(hk:k<=100000000000:=by omega):Ret prog 141 #[.slice none 0 0,.int .i64 (k:Int)] w fun v w'=>∃a c full,v=.slice a 0 c/\Ctx w [] w' (ent a 5 full)/\OS a 0 c 1 full []:=by
 obtain⟨w0,rfl,H⟩:=qE w;refine A6 (fn:=f141) func141 U [.slice none 0 0,.int .i64 (k:Int)] U (Ad (Ak U (qA (Aq (Ad (Ae U (Bn U U ?_)))))));rw[qag (show ¬(k:Int)<0 by omega)];refine qA (Bz U (Ap (Aa (Aq (Ad (Ae U (Aj U (VK U AX U (Aj U (AP AX U ?_))))))))));refine BB U U (BB U U ?_);rw[show(k:Int) - (((0:Nat):Int) - ((0:Nat):Int))=(k:Int)by omega];refine Ac U (qA (Ad (Ae U (BZ U U (qA (Au _ U ?_ ?_))))))
 .intro h1;replace h1:=AV h1;refine Av (Aj U (Aj U (VK U AX U (Ei AX CT U U ?_))));refine Ae U (WS U AX Ge CT Pf IP U U U H ?_);rintro b c full w H O hkc;refine Aj U (AP AX U (Ei AX CT U U ?_));refine Ak U (qA (Ad (Aj U (Ak U (qA (Ax (AG (v:=(.slice _ _ _)) U U U ?_)))))));exact⟨some ⟨b,0,none⟩,c,full,rfl,H,O⟩
 .intro h1;replace h1:=AW h1;refine Ap (Aa (Ad (Aj U (Ak U (qA (Ax (AG (v:=(.slice _ _ _)) U U U ?_)))))));exact⟨none,0,[],rfl,H,OS.nil⟩
theorem Pu{α β:Type}{l:List α}{i:Nat}{x:α}(f:α->List β)(h:l[i]?=some x):(l.take (i+1)).flatMap f=(l.take i).flatMap f++f x:=by
 rw[Bp h,qbf,qb8]
theorem Ob{α:Type}{l:List α}{i:Nat}{x:α}(f:α->Nat)(h:l[i]?=some x):((l.take (i+1)).map f).sum=((l.take i).map f).sum+f x:=by
 rw[Bp h,qaz,List.sum_append];simp
theorem Od{α:Type}(l:List α)(i:Nat)(f:α->Nat):((l.take i).map f).sum<=(l.map f).sum:=by
 have h:(l.map f).sum=((l.take i).map f).sum+((l.drop i).map f).sum:=by rw[<-List.sum_append,<-qaz,qbj]
 omega
theorem Oe{α β:Type}(l:List α)(f:α->List β):(l.flatMap f).length=(l.map fun x=>(f x).length).sum:=by
 rw[List.length_flatMap]
theorem ZQ{w:World}{a:Option Addr}{n c:Nat}(xs:List SB)(R:Rd w a 1 Ai3 xs)(hx:∀x∈xs,RdS w x)(hn:n=xs.length)(hm:n<=1000000)(hs:(xs.map fun x=>x.2.1.length).sum<=10000000000:=by omega):
  Ret prog 116 #[.slice a n c] w fun v w'=>Fresh w w' 5 1 v ((xs.flatMap fun x=>x.2.1).map bv):=by
 subst hn;obtain⟨w0,rfl,H⟩:=qE w;refine A6 (fn:=f116) func116 U [.slice a xs.length c] U (Ad (Ak U (qA (Ad (Ac U (qA (Aq (Ad (Aj U (AP EX U ?_))))))))));refine Ae U (qA (AE (B7 8386600 (α:=Nat) (fun i=>[(11,.int .i64 (i:Int)),(3,.int .i64 ((((xs.take i).map fun x=>x.2.1.length).sum:Nat):Int))]) (fun i w'=>w0=w'/\i<=xs.length) (fun i=>xs.length - i) 0 U ?_ ?_ ?_)))
 .exact⟨rfl,rfl,trivial⟩
 .exact⟨rfl,qak _⟩
 .rintro i j w ⟨rfl,hi⟩;refine Ad (Bn U U (qA (Aq (Au _ U ?_ ?_))))
  .intro h1;replace h1:=AV h1;obtain⟨x,hx1⟩:=AO (l:=xs) (i:=i);have hsn:=Ob (fun x:SB=>x.2.1.length) hx1;have hst:=Od xs (i+1) (fun x:SB=>x.2.1.length);refine Ap (Aa (Aq (AE (Ad (AY R EX Gh U U (hn:=by rfl) ?_)))));refine Be B4 U (R.fld hx1 U (j:=0) U) (Ak U (qA (Ad (Ae U (Aj U (AP AX U (A7 U U ?_)))))));refine Ac U (qA (Ad (Ae U (Bn U U ?_))));rw[qag (show ¬(_:Int)<0 by omega)];refine qA (Bz U (Ap (AF (Aa (Av (A7 U U ?_))))));refine Ae U (qA ?_);exact⟨i+1,rfl,⟨rfl,qab (Value.int .i64) (by rw[hsn];rfl),trivial⟩,⟨rfl,by omega⟩,by omega⟩
  .intro h1;replace h1:=AW h1;have hii:i=xs.length:=by omega
   subst hii;rw[qbe];refine B3 (Ay (Ay (Bb (Aa (Ad (Ae U (Ai qB (Ai4 _ _) U ?_)))))));rintro v w ⟨a24,c24,full24,rfl,H,O⟩;refine Ak U (qA (Aq (Ad (Aj U (AP EX U (Ae U (qA (AE (B7 34225520960 (α:=Nat × Option Addr × Nat × List Value) (fun s=>[(27,.int .i64 (s.1:Int)),(6,.slice s.2.1 ((xs.take s.1).flatMap fun x=>x.2.1).length s.2.2.1)]) (fun s w'=>s.1<=xs.length/\Ctx w0 [] w' (ent s.2.1 5 s.2.2.2)/\OS s.2.1 ((xs.take s.1).flatMap fun x=>x.2.1).length s.2.2.1 1 s.2.2.2 (((xs.take s.1).flatMap fun x=>x.2.1).map bv)) (fun s=>xs.length - s.1) (0,a24,c24,full24) U ?_ ?_ ?_)))))))))
   .exact⟨rfl,rfl,trivial⟩
   .exact⟨qak _,H,O⟩
   .rintro⟨i,a6,c6,full6⟩ j w ⟨hi,H,O⟩;dsimp only at hi H O;dsimp only;refine Ad (Bn U U (qA (Aq (Au _ U ?_ ?_))))
    .intro h2;replace h2:=AV h2;obtain⟨x,hx1⟩:=AO (l:=xs) (i:=i);have hxs:=hx x (qad hx1);have hsn:=Ob (fun x:SB=>x.2.1.length) hx1;have hst:=Od xs (i+1) (fun x:SB=>x.2.1.length);have hfl:=Oe (xs.take i) (fun x:SB=>x.2.1);have hfs:=Pu (fun x:SB=>x.2.1) hx1;refine Ap (Aa (Aq (AE (Ad (AY R EX Gh U U (hn:=by rfl) ?_)))));refine Be B4 U ((R.ext0 H.ext).fld hx1 U (j:=0) U) (Ak U (qA (Av (Aj U (Aj U (DS (L:=[]) U AX AX CT Pf IP U (x.2.1.map bv) U U H O (by simp) (Ht _) (Rd.appB (hxs.1.ext0 H.ext)) ?_))))));rintro a7 c7 full7 w H O;rw[<-qaz,<-hfs]at O;rw[<-qan,<-hfs]at O;rw[<-qan,<-hfs];refine Ak U (Ab (AF (Aa (Av (A7 U U ?_)))));refine Ae U (qA ?_)
     exact⟨(i+1,a7,c7,full7),rfl,⟨rfl,rfl,trivial⟩,⟨by dsimp only;omega,H,O⟩,by dsimp only;omega⟩
    .intro h2;replace h2:=AW h2;have hii:i=xs.length:=by omega
     subst hii;rw[qbe]at O;rw[qbe];refine B3 (Ay (Ay (Bb (Aa (Ad (Aj U (Ak U (qA (Ax (AG (v:=(.slice _ _ _)) U U U ?_))))))))));exact Ctx.fresh (L:=[]) H O
theorem Ai5(k:Nat)(w:World)(hk:k<=100000000000:=by omega):Ret prog 180 #[.slice none 0 0,.int .i64 (k:Int)] w fun v w'=>∃a c full,v=.slice a 0 c/\Ctx w [] w' (ent a 185 full)/\OS a 0 c 3 full []:=by
 obtain⟨w0,rfl,H⟩:=qE w;refine A6 (fn:=f180) func180 U [.slice none 0 0,.int .i64 (k:Int)] U (Ad (Ak U (qA (Aq (Ad (Ae U (Bn U U ?_)))))));rw[qag (show ¬(k:Int)<0 by omega)];refine qA (Bz U (Ap (Aa (Aq (Ad (Ae U (Aj U (VK U Bw U (Aj U (AP Bw U ?_))))))))));refine BB U U (BB U U ?_);rw[show(k:Int) - (((0:Nat):Int) - ((0:Nat):Int))=(k:Int)by omega];refine Ac U (qA (Ad (Ae U (BZ U U (qA (Au _ U ?_ ?_))))))
 .intro h1;replace h1:=AV h1;refine Av (Aj U (Aj U (VK U Bw U (Ei Bw Bm U U ?_))));refine Ae U (WS U Bw Ge Bm Kn C3 U U U H ?_);rintro b c full w H O hkc;refine Aj U (AP Bw U (Ei Bw Bm U U ?_));refine Ak U (qA (Ad (Aj U (Ak U (qA (Ax (AG (v:=(.slice _ _ _)) U U U ?_)))))));exact⟨some ⟨b,0,none⟩,c,full,rfl,H,O⟩
 .intro h1;replace h1:=AW h1;refine Ap (Aa (Ad (Aj U (Ak U (qA (Ax (AG (v:=(.slice _ _ _)) U U U ?_)))))));exact⟨none,0,[],rfl,H,OS.nil⟩
abbrev SI:=Option Addr × List It × Nat
def Oh(x:SI):List Value:=[.slice x.1 x.2.1.length x.2.2]
theorem Im.one(ms:List Im):∀v∈ms.flatMap Im.enc,Bi v=true:=fun v hv=>by
 obtain⟨m,_,hv⟩:=List.mem_flatMap.1 hv;simp only[Im.enc,qac,qam,or_false]at hv
 rcases hv with rfl|rfl|rfl <;> rfl
theorem Im.flat_len(ms:List Im):(ms.flatMap Im.enc).length=ms.length*3:=by
 rw[List.length_flatMap]
 induction ms with
 |nil=>rfl
 |cons m ms ih=>rw[qay,qc5,ih,qaw];show 3+_=_;omega
theorem Gt{w:World}{M:Mut}(hM:∀x,M x->x<w.heap.size){a:Option Addr}{n c:Nat}(xs:List SI)(R:Rd w a 1 Oh xs)(hx:∀x∈xs,Its w M x.1 x.2.1.length x.2.2 x.2.1)(hn:n=xs.length)(hs:(xs.map fun x=>x.2.1.length).sum<=100000000)(hm:n<=1000000:=by omega):
  Ret prog 147 #[.slice a n c] w fun v w'=>∃a' c',v=.slice a' (xs.flatMap fun x=>x.2.1).length c'/\Its w' M a' (xs.flatMap fun x=>x.2.1).length c' (xs.flatMap fun x=>x.2.1)/\Ext [] w w':=by
 subst hn;obtain⟨w0,rfl,H⟩:=qE w;refine A6 (fn:=f147) func147 U [.slice a xs.length c] U (Ad (Ak U (qA (Ad (Ac U (qA (Aq (Ad (Aj U (AP IL U ?_))))))))));refine Ae U (qA (AE (B7 8386600 (α:=Nat) (fun i=>[(11,.int .i64 (i:Int)),(3,.int .i64 ((((xs.take i).map fun x=>x.2.1.length).sum:Nat):Int))]) (fun i w'=>w0=w'/\i<=xs.length) (fun i=>xs.length - i) 0 U ?_ ?_ ?_)))
 .exact⟨rfl,rfl,trivial⟩
 .exact⟨rfl,qak _⟩
 .rintro i j w ⟨rfl,hi⟩;refine Ad (Bn U U (qA (Aq (Au _ U ?_ ?_))))
  .intro h1;replace h1:=AV h1;obtain⟨x,hx1⟩:=AO (l:=xs) (i:=i);have hsn:=Ob (fun x:SI=>x.2.1.length) hx1;have hst:=Od xs (i+1) (fun x:SI=>x.2.1.length);refine Ap (Aa (Aq (AE (Ad (AY R IL CP U U (hn:=by rfl) ?_)))));refine Be BT U (R.fld hx1 U (j:=0) U) (Ak U (qA (Ad (Ae U (Aj U (AP Bw U (A7 U U ?_)))))));refine Ac U (qA (Ad (Ae U (Bn U U ?_))));rw[qag (show ¬(_:Int)<0 by omega)];refine qA (Bz U (Ap (AF (Aa (Av (A7 U U ?_))))));refine Ae U (qA ?_);exact⟨i+1,rfl,⟨rfl,qab (Value.int .i64) (by rw[hsn];rfl),trivial⟩,⟨rfl,by omega⟩,by omega⟩
  .intro h1;replace h1:=AW h1;have hii:i=xs.length:=by omega
   subst hii;rw[qbe];refine B3 (Ay (Ay (Bb (Aa (Ad (Ae U (Ai qB (Ai5 _ _) U ?_)))))));rintro v w ⟨a24,c24,full24,rfl,H,O⟩;refine Ak U (qA (Aq (Ad (Aj U (AP IL U (Ae U (qA (AE (B7 34225520960 (α:=Nat × Option Addr × Nat × List Value × List Im) (fun s=>[(27,.int .i64 (s.1:Int)),(6,.slice s.2.1 s.2.2.2.2.length s.2.2.1)]) (fun s w'=>s.1<=xs.length/\Ctx w0 [] w' (ent s.2.1 185 s.2.2.2.1)/\OS s.2.1 s.2.2.2.2.length s.2.2.1 3 s.2.2.2.1 (s.2.2.2.2.flatMap Im.enc)/\s.2.2.2.2.map (·.it)=(xs.take s.1).flatMap (fun x=>x.2.1)/\∀m∈s.2.2.2.2,m.Ok w0 M) (fun s=>xs.length - s.1) (0,a24,c24,full24,[]) U ?_ ?_ ?_)))))))))
   .exact⟨rfl,rfl,trivial⟩
   .exact⟨qak _,H,O,rfl,fun m hm=>by cases hm⟩
   .rintro⟨i,a6,c6,full6,ms⟩ j w ⟨hi,H,O,hms,hmo⟩;dsimp only at hi H O hms hmo;dsimp only;refine Ad (Bn U U (qA (Aq (Au _ U ?_ ?_))))
    .intro h2;replace h2:=AV h2;obtain⟨x,hx1⟩:=AO (l:=xs) (i:=i);obtain⟨ns,Rn,-,hnl,hno⟩:=(hx x (qad hx1)).ex;have hnn:ns.length=x.2.1.length:=by rw[<-hnl,qaj]
     have hsn:=Ob (fun x:SI=>x.2.1.length) hx1;have hst:=Od xs (i+1) (fun x:SI=>x.2.1.length);have hfl:=Oe (xs.take i) (fun x:SI=>x.2.1);have hml:ms.length=((xs.take i).flatMap fun x=>x.2.1).length:=by rw[<-hms,qaj]
     have hfs:=Pu (fun x:SI=>x.2.1) hx1;refine Ap (Aa (Aq (AE (Ad (AY R IL CP U U (hn:=by rfl) ?_)))));refine Be BT U ((R.ext0 H.ext).fld hx1 U (j:=0) U) (Ak U (qA (Av (Aj U (Aj U (DS (L:=[]) U Bw Bw Bm Kn C3 U (ns.flatMap Im.enc) U U H O (by rw[Im.flat_len,hnn]) (Im.one _) ((Rn.ext0 H.ext).app (fun _ _=>rfl) (by decide)) ?_))))));rintro a7 c7 full7 w H O;rw[<-qbf,<-hnn,<-qan]at O;rw[<-hnn,<-qan];refine Ak U (Ab (AF (Aa (Av (A7 U U ?_)))));refine Ae U (qA ?_);refine⟨(i+1,a7,c7,full7,ms++ns),rfl,⟨rfl,rfl,trivial⟩,⟨by dsimp only;omega,H,O,by dsimp only;rw[qaz,hms,hnl,hfs],fun m hm=>?_⟩,by dsimp only;omega⟩
     rcases qau.1 hm with hm|hm
     .exact hmo m hm
     .exact hno m hm
    .intro h2;replace h2:=AW h2;have hii:i=xs.length:=by omega
     subst hii;rw[qbe]at hms;have hml:ms.length=(xs.flatMap fun x=>x.2.1).length:=by rw[<-hms,qaj]
     have Rm:=OS.rd O (fun x hx=>H.blk x hx) (fun _ _=>rfl) (by decide);refine B3 (Ay (Ay (Bb (Aa (Ad (Aj U (Ak U (qA (Ax (AG (v:=(.slice _ _ _)) U U U ?_))))))))));refine⟨a6,c6,by rw[hml],⟨⟨ms,Rm,?_,hms,fun m hm=>(hmo m hm).call H.ext⟩,rfl,by rw[<-hml];exact O.le⟩,H.ext⟩
     have hq:∀q:Addr,a6=some q->w0.heap.size<=q.block:=fun q hq=>by
      subst hq;exact(H.own (q.block,_) (qaa.2 U)).elim (fun h=>by cases h) id
     cases ha6:a6 with
     |none=>exact .inl (qa4 (by have h8:=O.le;have h9:=O.none' ha6;omega))
     |some q=>exact .inr fun hqM=>absurd (hM _ hqM) (Nat.not_lt.2 (hq q ha6))
theorem Ll{inner:Bool}{L:List It}(h:∀x∈L,x.key.length<=65535/\x.val.length<=65535):Bd inner L<=131076*L.length:=by
 induction L with
 |nil=>exact qak _
 |cons x L ih =>
  have h1:=h x (qaf ..);have h2:=ih fun y hy=>h y (qai _ hy)
  have h3:CK inner x<=131076:=by
   cases inner
   .simp only[CK,cond_false];omega
   .simp only[CK,cond_true];omega
  rw[Da,qaw];omega
theorem SQ{inner:Bool}{L:List It}{i:Nat}{x:It}(h:L[i]?=some x):Bd inner (L.take (i+1))=Bd inner (L.take i)+CK inner x:=by
 rw[Bp h,BA,Da];rfl
def NB(inner:Bool)(a:Option Addr)(n c:Nat):List Value:=[.bool inner,.slice a n c]
theorem SR{w:World}{M:Mut}(inner:Bool){a:Option Addr}{n c:Nat}{L:List It}(I:Its w M a n c L)(hm:n<=1000000)(hsz:∀x∈L,x.key.length<=65535/\x.val.length<=65535) :
  Ret prog 155 #[.agg #[.bool inner,.slice a n c]] w fun v w'=>v=.int .i64 (Bd inner L:Int)/\Ext [] w w':=by
 obtain⟨w0,rfl,H⟩:=qE w;obtain⟨ms,R,-,hl,hok⟩:=I.ex;have hnum:=I.num;have hml:ms.length=n:=by rw[hnum,<-hl,qaj]
 refine A6 (fn:=f155) func155 U [.agg #[.bool inner,.slice a n c]] U (Ad (Cn (NB inner a n c) (.agg _) U U H ?_));rintro b1 w - H;refine Ac U (qA (Aq (Ad (Af Br U (AH BT U H at0 U (AP Bw U (Ae U (qA (AE ?_)))))))));obtain⟨wb,rfl⟩:=qD w;have hb1:=H.get at0;have hxb:=H.ext;have hnode:∀{z:World},Ext [] wb z->z.heap[b1]?=some (Bl 183 (NB inner a n c)):=fun{z} h=>by rw[h.block b1 (Al hb1) (by simp)];exact hb1
 refine B7 261908 (α:=Nat) (fun i=>[(8,.int .i64 (i:Int)),(2,.int .i64 (Bd inner (L.take i):Int))]) (fun i w'=>i<=n/\Ext [] wb w') (fun i=>n - i) 0 U ?_ ?_ ?_
 .exact⟨rfl,rfl,trivial⟩
 .exact⟨qak _,.refl _ _⟩
 .rintro i j w ⟨hi,hx⟩;have H:=Ctx.start w [];refine Ad (Bn U U (qA (Aq (Au _ U ?_ ?_))))
  .intro h1;replace h1:=AV h1;obtain⟨x,hx1⟩:=AO (l:=ms) (i:=i);have hxL:=Im.at hl hx1;have hxo:=hok x (qad hx1);have hxs:=hsz x.it (qad hxL);have hts:=SQ (inner:=inner) hxL;have htl:=Ll (inner:=inner) (L:=L.take i) fun y hy=>hsz y (qbp hy);have hlt:=qa0 (i:=i) (l:=L)
   have hsx:CK inner x.it<=131076:=by
    cases inner
    .simp only[CK,cond_false];omega
    .simp only[CK,cond_true];omega
   refine Ap (Aa (Aq (AE (Ad (AY R Bw Bm U U ?_)))));refine EY x.enc Ds Bm U U ((R.ext0 (hxb.trans hx)).row hx1 U) (Bj C3 H ?_);rintro b4 w - H;refine Bo Bm U U U (by exact Im.oneE _) H at0 U ?_;rintro w H;refine qA (Av (Ae U (EY (NB inner a n c) BQ Bh U U (fun j v hv=>by rw[Ar (hnode (hx.trans H.ext)),qa2];exact hv) ?_)));refine BN Ds Bm U H at0 U (Ai qB (SO inner a n c (hxo.call ((hxb.trans hx).trans H.ext))) U ?_);rintro v w ⟨rfl,hx15⟩;replace H:=H.call hx15;refine A7 U U (Ac U (Ab (AF (Aa (Av (A7 U U ?_))))));refine Ae U (qA ?_);exact⟨i+1,rfl,⟨rfl,qab (Value.int .i64) (by rw[hts];rfl),trivial⟩,⟨by omega,hx.trans H.ext⟩,by omega⟩
  .intro h1;replace h1:=AW h1;have hii:i=n:=by omega
   subst hii;rw[hnum,qbe];refine B3 (Ay (Ay (Bb (Aa (Ad (Ae U (Ac U (qA (Ax (AG (v:=(.int _ _)) U U U ?_))))))))));exact⟨rfl,hxb.trans hx⟩
theorem Aoj(l:Byt)(n:Nat):Ng l n 2=l++Bq n 2:=by rw[Ng,show HM 2=true by decide];rfl
theorem FI(a:Option Addr)(c m:Nat)(b:Byt)(sa:Option Addr)(sc sn:Nat)(s:Byt)(w:World)(R:Rd w a 1 B8 b)(hb:b.length=m)(hm:m<=1000000000)(Rs:Rd w sa 1 B8 s)(hs:s.length=sn)(hc:sn<=sc)(hn:sn<=65535:=by omega):
  Ret prog 85 #[.slice a m c,.slice sa sn sc] w fun v w'=>∃x,v=.tuple #[x,.int .i64 0]/\Fresh w w' 5 1 x ((b++(Bq s.length 2++s)).map bv):=by
 subst hb hs;obtain⟨w0,rfl⟩:=qD w;refine A6 (fn:=f85) func85 U [.slice a b.length c,.slice sa s.length sc] U (Ad (Ak U (Ac U (qA (Aq (Ad (Aj U (AP AX U (BZ U U ?_)))))))));rw[qag (show ¬(65535:Int)<(s.length:Int)by omega)];refine qA (Bz U (Ap (Aa (Ad (Aj U (Aj U (AP AX U (DP U Ge Hn ?_))))))));refine Ai qB (Gr a c _ b s.length 2 _ R U (hm:=by omega) (by omega)) U ?_;rintro v w F13;rw[Aoj]at F13;obtain⟨a13,c13,rfl,R13,hc13⟩:=Fresh.rdB F13;have H:=Ctx.start w [];refine Aj U (Cb (L:=[]) [.slice a13 (b++Bq s.length 2).length c13,.slice sa s.length sc] EX Gh UF H ?_);rintro b15 w2 - H;have hl2:(([(a13,b++Bq s.length 2,c13),(sa,s,sc)]:List SB).map fun x=>x.2.1.length).sum=b.length+2+s.length:=(by simp[AZ];try omega)
 refine Ai qB (ZQ [(a13,b++Bq s.length 2,c13),(sa,s,sc)] (Rd.of_bl (r:=[]) (H.get at0) U (fun _ _=>rfl)) (fun x hx=>?_) U (by simp)) U ?_
 rotate_left
 rintro v w3 F16;obtain⟨a16,c16,rfl,R16,hc16⟩:=Fresh.rdB F16;refine Ak U (Ac U (qA (Ax (Ce (v1:=(.slice _ _ _)) (v2:=(.int _ _)) U U U U ?_))))
 .refine⟨_,rfl,?_⟩;have F:=Fresh.since F16 (F13.ext.trans H.ext)
  simpa using F
 .rcases qac.1 hx with rfl|hx
  .exact⟨R13.ext0 H.ext,hc13⟩
  .rw[qaa.1 hx];exact⟨(Rs.ext0 F13.ext).ext0 H.ext,hc⟩
theorem UR(b:Byt)(at' k:Nat):∃(g nx:Nat),Gi b (at':Int) (k:Int)=.tuple #[.int .u64 (g:Int),.int .i64 (nx:Int),.int .i64 (Dj b (at':Int) (k:Int))]/\g<256 ^ k/\nx<=at'+k/\(Dj b (at':Int) (k:Int)=0->g=numN ((b.drop at').take k)/\nx=at'+k):=by
 by_cases h:Dj b (at':Int) (k:Int)=0
 .refine⟨numN ((b.drop at').take k),at'+k,?_,?_,qae _,fun _=>⟨rfl,rfl⟩⟩
  .rw[Gi,h];rfl
  .have h1:=Kr ((b.drop at').take k);have h2:((b.drop at').take k).length<=k:=by rw[qa0];omega
   exact qas h1 (qc2 (by omega) h2)
 .refine⟨0,0,?_,Nat.pow_pos (by omega),by omega,fun h'=>absurd h' h⟩;rw[Gi,qag h];rfl
theorem UT(b:Byt)(at':Nat):∃(g nx:Nat),Gi b (at':Int) 2=.tuple #[.int .u64 (g:Int),.int .i64 (nx:Int),.int .i64 (Dj b (at':Int) 2)]/\g<65536/\nx<=at'+2/\(Dj b (at':Int) 2=0->g=numN ((b.drop at').take 2)/\nx=at'+2):=UR b at' 2
theorem Ad8(b:Byt)(at':Nat):∃(g nx:Nat),Gi b (at':Int) 4=.tuple #[.int .u64 (g:Int),.int .i64 (nx:Int),.int .i64 (Dj b (at':Int) 4)]/\g<4294967296/\nx<=at'+4/\(Dj b (at':Int) 4=0->g=numN ((b.drop at').take 4)/\nx=at'+4):=UR b at' 4
theorem Hf(a:Option Addr)(c m:Nat)(b:Byt)(at':Nat)(w:World)(R:Rd w a 1 B8 b)(hb:b.length=m)(hc:m<=c)(hm:m<=1000000000:=by omega)(ha:at'<=1000000000:=by omega):
  Ret prog 101 #[.slice a m c,.int .i64 (at':Int)] w fun v w'=>∃sa s sc nx e,v=.tuple #[.slice sa (List.length s) sc,.int .i64 ((nx:Nat):Int),.int .i64 e]/\Ext [] w w'/\Rdx w' (Old w) sa s/\s.length<=sc/\s.length<=b.length/\nx<=b.length/\(e=0->tbO b at'=some (s,nx))/\(e≠0->tbO b at'=none/\s=[]):=by
 subst hb;obtain⟨w0,rfl⟩:=qD w;obtain⟨g,nx,htv,hg,hnx,h0⟩:=UT b at';refine A6 (fn:=f101) func101 U [.slice a b.length c,.int .i64 (at':Int)] U (Ad (Ak U (Ac U (Ac U (qA (Ad (Aj U (Ae U (Ai qB (Hd a c _ b (at':Int) 2 _ R U hc) U ?_)))))))));rintro v w ⟨rfl,hx12⟩;rw[htv];refine AQ U (Ah U U (Ah U U (Ah U U (Ac U (Ac U (Ac U (qA (Aq (Ad ?_)))))))));refine Ae U (Ba U U (qA (Au _ U ?_ ?_)))
 .intro h1;replace h1:=Bu h1;have hn:tbO b at'=none:=by unfold tbO;rw[if_neg h1]
  refine Ad (Ae U (Ak U (Ac U (Ac U (qA (Ax (Ao (CX (v1:=(.slice _ _ _)) (v2:=(.int _ _)) (v3:=(.int _ _)) U U U U U ?_))))))));exact⟨none,[],0,0,_,rfl,hx12,Rdx.nil,qae _,qak _,qak _,fun h=>absurd h h1,fun _=>⟨hn,rfl⟩⟩
 .intro h1;replace h1:=Bv h1;obtain⟨hg2,hnx2⟩:=h0 h1;subst hnx2;have ht:tbO b at'=if at'+2+g<=b.length then some ((b.drop (at'+2)).take g,at'+2+g)else none:=by unfold tbO;rw[if_pos h1,<-hg2]
  refine Ap (Aa (Aq (Ad (Ae U (Ae U (Ej U Hn Ge ?_))))));refine A7 U U ?_;rw[show((at'+2:Nat):Int)+(g:Int)=((at'+2+g:Nat):Int)by omega];refine Ac U (qA (Ad (Ae U (Aj U (AP AX U (BZ U U (qA (Au _ U ?_ ?_))))))))
  .intro h2;replace h2:=AV h2;rw[if_neg (by omega)]at ht;refine Ad (Ak U (Ac U (Ac U (qA (Ax (Ao (CX (v1:=(.slice _ _ _)) (v2:=(.int _ _)) (v3:=(.int _ _)) U U U U U ?_)))))));exact⟨none,[],0,0,5,rfl,hx12,Rdx.nil,qae _,qak _,qak _,fun h=>absurd h (by decide),fun _=>⟨ht,rfl⟩⟩
  .intro h2;replace h2:=AW h2;rw[if_pos (by omega)]at ht;have R2:Rd w (EL a c (at'+2) 1) 1 B8 ((b.drop (at'+2)).take g):=((R.ext0 hx12).cut (at'+2) c hc).take g;have hl2:((b.drop (at'+2)).take g).length=g:=by rw[qa0,qbg];omega
   refine Ap (Aa (Ad (Aj U (Ae U (Ae U (J8 U AX CT U U U ?_))))));rw[qbo,qbo,show at'+2+g - (at'+2)=g by omega];refine Ai qB (JM _ _ g _ _ R2 hl2) U ?_;rintro v w3 ⟨F31,-⟩;obtain⟨a31,c31,rfl,R31,hc31,hn31⟩:=Fresh.newB F31;refine Ae U (Ak U (Ac U (Ac U (qA (Ax (CX (v1:=(.slice _ _ _)) (v2:=(.int _ _)) (v3:=(.int _ _)) U U U U U ?_))))));have hsz:=hx12.size;exact⟨a31,_,c31,at'+2+g,0,rfl,hx12.trans F31.ext,⟨R31,hn31.imp id fun h h2=>by unfold Old at h2;omega⟩,hc31,by rw[hl2];omega,by omega,fun _=>ht,fun h=>absurd rfl h⟩
theorem Old.mono{w w':World}{S:List Nat}(hx:Ext S w w'):∀x,Old w x->Old w' x:=fun _ h=>qas h hx.size
theorem Apy(inner:Bool)(a:Option Addr)(c m:Nat)(b:Byt)(at':Nat)(w:World)(R:Rd w a 1 B8 b)(hb:b.length=m)(hc:m<=c)(hm:m<=100000000:=by omega)(ha:at'<=100000000:=by omega):
  Ret prog 211 #[.bool inner,.slice a m c,.int .i64 (at':Int)] w fun v w'=>∃(x:Im) (nx:Nat) (e:Int),v=.tuple #[.agg x.enc.toArray,.int .i64 (nx:Int),.int .i64 e]/\Ext [] w w'/\x.Ok w' (Old w)/\nx<=b.length/\x.it.key.length<=b.length/\x.it.val.length<=b.length/\x.it.page<4294967296/\(e=0->Nh inner b at'=some (x.it,nx))/\(e≠0->Nh inner b at'=none):=by
 subst hb;obtain⟨w0,rfl,H⟩:=qE w;refine A6 (fn:=f211) func211 U [.bool inner,.slice a b.length c,.int .i64 (at':Int)] U (Ad (Bj C3 H ?_));rintro b6 w - H;refine Ac U (Ac U (qA (Aq (Ad (AA U (qA (Au _ U ?_ ?_)))))))
 .intro hi;subst hi;obtain⟨g,nx,htv,hg,hnx,h0⟩:=Ad8 b at';refine Ad (Aj U (Ae U (Ai qB (Hd a c _ b (at':Int) 4 _ (R.ext0 H.ext) U hc) U ?_)));rintro v w ⟨rfl,hx16⟩;rw[htv];replace H:=H.call hx16;refine AQ U (Ah U U (Ah U U (Ah U U (Ac U (Ac U (Ac U (qA (Aq (Ad ?_)))))))));refine Ae U (Ba U U (qA (Au _ U ?_ ?_)))
  .intro h1;replace h1:=Bu h1;refine Ad (BN Ds Bm U H at0 U (Ae U (Bo Bm U U U (by simp[Bi]) H at0 U ?_)));rintro w H;refine Ac U (Ac U (qA (Ax (Ao (Ao (NF U U U Ds Bm H at0 U (show _=(.int _ _)from rfl) (show _=(.int _ _)from rfl) ?_))))));refine⟨⟨none,0,none,0,⟨[],[],0⟩⟩,0,_,rfl,H.ext,⟨Rdx.nil,Rdx.nil,qae _,qae _⟩,qak _,qak _,qak _,by decide,fun h=>absurd h h1,fun _=>?_⟩;unfold Nh;rw[if_pos rfl,if_neg h1]
  .intro h1;replace h1:=Bv h1;obtain⟨hg2,hnx2⟩:=h0 h1;subst hnx2;refine Ap (Aa (Av (Ae U (Ej U Hn Ge ?_))));refine Ae U (Af Gg U (Bf (.int _ _) Hv U U U H at0 (by decide) ?_));rintro w H;refine Ac U (qA (Ad (Aj U (Ae U (Ai qB (Hf a c _ b (at'+4) _ (R.ext0 H.ext) U hc) U ?_)))));have hxw:=H.ext;have hb6:=H.lt (k:=0) rfl;rintro v w3 ⟨sa,s,sc,ny,e,rfl,hx31,X31,hsc,hsl,hny,he0,he1⟩;have Hold:=H.call hx31;replace H:=Ctx.startL (fun x hx=>Hold.blk x hx) Hold.nd;have hge:=(Hold.own _ (qaf ..)).elim (fun h=>by cases h) id;refine AQ U (Ah U U (Ah U U (Ah U U (Af FC U (Bf (.slice _ _ _) Gh U U U H at0 (by(simp;done)) ?_)))));rintro w H;refine Ac U (Ac U (qA (Aq (Ad (Ae U (B6 U U (AA U (AR 38 U ?_ ?_))))))))
   .intro h2;replace h2:=AV h2;refine AA U (BX U (AN U (.bool _) U (qA (Bz U (Ap (Aa (Ad (BN Ds Bm U H at0 U (Ae U (Ae U ?_))))))))));refine Bo Bm U U U (by simp[Bi]) H at0 U ?_;rintro w H;refine Ac U (Ac U (qA (Ax (NF U U U Ds Bm H at0 U (show _=(.int _ _)from rfl) (show _=(.int _ _)from rfl) ?_))));have X:=(X31.past H.ext (fun x hx=>by rw[qaa.1 hx];exact hb6)).weak (Old.mono hxw);refine⟨⟨sa,sc,none,0,⟨s,[],g⟩⟩,ny,e,rfl,Hold.ext.then H.ext (fun x hx => .inr (by rw[qaa.1 hx];exact hge)),⟨X,Rdx.nil,hsc,qae _⟩,hny,hsl,qak _,hg,fun h=>?_,fun h=>absurd h2 h⟩;unfold Nh;rw[if_pos rfl,if_pos h1,he0 h,<-hg2]
   .intro h2;replace h2:=AW h2;refine Ag U (Ag U (AK U (.bool _) U (qA (Bz U (Ap (Aa (Ad (BN Ds Bm U H at0 U (Ae U (Ae U ?_))))))))));refine Bo Bm U U U (by simp[Bi]) H at0 U ?_;rintro w H;refine Ac U (Ac U (qA (Ax (NF U U U Ds Bm H at0 U (show _=(.int _ _)from rfl) (show _=(.int _ _)from rfl) ?_))));have X:=(X31.past H.ext (fun x hx=>by rw[qaa.1 hx];exact hb6)).weak (Old.mono hxw);refine⟨⟨sa,sc,none,0,⟨s,[],g⟩⟩,ny,e,rfl,Hold.ext.then H.ext (fun x hx => .inr (by rw[qaa.1 hx];exact hge)),⟨X,Rdx.nil,hsc,qae _⟩,hny,hsl,qak _,hg,fun h=>absurd h h2,fun _=>?_⟩;unfold Nh;rw[if_pos rfl,if_pos h1,(he1 h2).1]
 .intro hi;subst hi;refine Ap (Aa (Ad (Aj U (Ae U (Ai qB (Hf a c _ b at' _ (R.ext0 H.ext) U hc) U ?_)))));have hxw:=H.ext;have hb6:=H.lt (k:=0) rfl;rintro v w3 ⟨sa,s,sc,ny,e,rfl,hx31,X31,hsc,hsl,hny,he0,he1⟩;have Hold:=H.call hx31;replace H:=Ctx.startL (fun x hx=>Hold.blk x hx) Hold.nd;have hge:=(Hold.own _ (qaf ..)).elim (fun h=>by cases h) id;refine AQ U (Ah U U (Ah U U (Ah U U (Af FC U (Bf (.slice _ _ _) Gh U U U H at0 (by decide) ?_)))));rintro w H;refine Ac U (Ac U (qA (Aq (Ad (Ae U (B6 U U (AA U (AR 38 U ?_ ?_))))))))
  .intro h2;replace h2:=AV h2;have hx3:=Hold.ext;refine AA U (BX U (AN U (.bool _) U (qA (EA U (Av (Aj U (Ae U ?_)))))));have hE0:Ext [] w0 _:=Hold.ext.then H.ext (fun x hx => .inr (by rw[qaa.1 hx];exact hge));refine Ai qB (Hf a c _ b ny _ (R.ext0 hE0) U hc) U ?_;have hb6b:=H.lt (k:=0) rfl;rintro v w5 ⟨va,t,vc,nz,e2,rfl,hx45,X45,hvc,hvl,hnz,hf0,hf1⟩;have Hold2:=H.call hx45;replace H:=Ctx.startL (fun x hx=>Hold2.blk x hx) Hold2.nd;refine AQ U (Ah U U (Ah U U (Ah U U (Af Le U (Bf (.slice _ _ _) Gh U U U H at0 (by(simp;done)) ?_)))));rintro w H;refine Ac U (Ac U (qA (Ad (BN Ds Bm U H at0 U (Ae U (Ae U (Bo Bm U U U (by simp[Bi]) H at0 U ?_)))))));rintro w H;refine Ac U (Ac U (qA (Ax (NF U U U Ds Bm H at0 U (show _=(.int _ _)from rfl) (show _=(.int _ _)from rfl) ?_))))
   have X1:=((X31.past Hold2.ext (fun x hx=>by rw[qaa.1 hx];exact hb6)).past H.ext (fun x hx=>by rw[qaa.1 hx];exact hb6)).weak (Old.mono hxw);have X2:=(X45.past H.ext (fun x hx=>by rw[qaa.1 hx];exact hb6b)).weak (Old.mono hE0);refine⟨⟨sa,sc,va,vc,⟨s,t,0⟩⟩,nz,e2,rfl,(Hold.ext.then Hold2.ext (fun x hx => .inr (by rw[qaa.1 hx];exact hge))).then H.ext (fun x hx => .inr (by rw[qaa.1 hx];exact hge)),⟨X1,X2,hsc,hvc⟩,hnz,hsl,hvl,(by show 0<4294967296;decide),fun h=>?_,fun h=>?_⟩
   .unfold Nh;rw[if_neg (by simp),he0 h2];simp only[hf0 h]
   .unfold Nh;rw[if_neg (by simp),he0 h2];simp only[(hf1 h).1]
  .intro h2;replace h2:=AW h2;refine Ag U (Ag U (AK U (.bool _) U (qA (Bz U (Ap (Aa (Ad (BN Ds Bm U H at0 U (Ae U (Ae U ?_))))))))));refine Bo Bm U U U (by simp[Bi]) H at0 U ?_;rintro w H;refine Ac U (Ac U (qA (Ax (NF U U U Ds Bm H at0 U (show _=(.int _ _)from rfl) (show _=(.int _ _)from rfl) ?_))));have X:=(X31.past H.ext (fun x hx=>by rw[qaa.1 hx];exact hb6)).weak (Old.mono hxw);refine⟨⟨sa,sc,none,0,⟨s,[],0⟩⟩,ny,e,rfl,Hold.ext.then H.ext (fun x hx => .inr (by rw[qaa.1 hx];exact hge)),⟨X,Rdx.nil,hsc,qae _⟩,hny,hsl,qak _,(by show 0<4294967296;decide),fun h=>absurd h h2,fun _=>?_⟩;unfold Nh;rw[if_neg (by simp),(he1 h2).1]
theorem Apz(l:Byt)(n:Nat):Ng l n 4=l++Bq n 4:=by rw[Ng,show HM 4=true by decide];rfl
theorem Ai6(inner:Bool)(L:List It)(i:Nat)(hi:i=L.length):Value.int .u8 (if inner=true/\0<i then 3 else 2)=bv (HR inner L):=by
 subst hi;unfold HR bv
 cases inner with
 |false=>rfl
 |true =>
  cases L with
  |nil=>rfl
  |cons x L=>simp
theorem Ai7{w:World}{M:Mut}(inner:Bool){a:Option Addr}{n c:Nat}{L:List It}(I:Its w M a n c L)(hm:n<=1000)(hsz:∀x∈L,x.key.length<=65535/\x.val.length<=65535)(hpgs:∀x∈L,x.page<9223372036854775808) :
  Ret prog 158 #[.agg #[.bool inner,.slice a n c]] w fun v w'=>Lh (HR inner L) (HQ inner L) w v w':=by
 obtain⟨w0,rfl,H⟩:=qE w;obtain⟨ms,R,-,hl,hok⟩:=I.ex;have hnum:=I.num;have hml:ms.length=n:=by rw[hnum,<-hl,qaj]
 refine A6 (fn:=f158) func158 U [.agg #[.bool inner,.slice a n c]] U (Ad (Cn (NB inner a n c) (.agg _) U U H ?_));rintro b1 w - H;refine Ak U (Ac U (qA (Ad (Af Br U (AH BT U H at0 U (AP Bw U (DP U Ge Hn ?_)))))));refine Ai qB (Gr none 0 0 [] n 2 _ Rd.nil U (by omega)) U ?_;rintro v w F12;rw[Aoj,qa7]at F12;obtain⟨a12,c12,rfl,R12,hc12⟩:=Fresh.rdB F12;replace H:=H.call F12.ext;refine Ak U (Ac U (qA (Aq (Ad (Af Br U (AH BT U H at0 U (AP Bw U (Ae U (qA ?_)))))))));refine AE ?_;obtain⟨wb,rfl⟩:=qD w;have hb1:=H.get at0;have hxb:=H.ext;have hnode:∀{z:World},Ext [] wb z->z.heap[b1]?=some (Bl 183 (NB inner a n c)):=fun{z} h=>by rw[h.block b1 (Al hb1) (by simp)];exact hb1
 have hlen0:(Bq n 2).length=2:=AZ ..;refine B7 35184372023472 (α:=Nat × Option Addr × Nat) (fun s=>[(16,.int .i64 (s.1:Int)),(4,.slice s.2.1 (Bq n 2++(L.take s.1).flatMap (Fe inner)).length s.2.2),(5,.int .u8 (if inner=true/\0<s.1 then 3 else 2))]) (fun s w'=>s.1<=n/\Ext [] wb w'/\Rd w' s.2.1 1 B8 (Bq n 2++(L.take s.1).flatMap (Fe inner))) (fun s=>n - s.1) (0,a12,c12) U ?_ ?_ ?_
 .exact⟨rfl,qab (fun k=>Value.slice a12 k c12) (show(Bq n 2).length=_ by simp),qab (Value.int .u8) (show(2:Int)=_ by simp),trivial⟩
 .exact⟨qak _,.refl _ _,by simpa using R12⟩
 .rintro⟨i,a4,c4⟩ j w ⟨hi,hx,R4⟩;dsimp only at hi hx R4;dsimp only;have H:=Ctx.start w [];refine Ad (Bn U U (qA (Aq (Au _ U ?_ ?_))))
  .intro h1;replace h1:=AV h1;obtain⟨x,hx1⟩:=AO (l:=ms) (i:=i);have hxL:=Im.at hl hx1;have hxo:=hok x (qad hx1);have hxs:=hsz x.it (qad hxL);have hfs:(L.take (i+1)).flatMap (Fe inner)=(L.take i).flatMap (Fe inner)++Fe inner x.it:=Pu _ hxL;have htl:=Ll (inner:=inner) (L:=L.take i) fun y hy=>hsz y (qbp hy);have hlt:=qa0 (i:=i) (l:=L);have hal:(Bq n 2++(L.take i).flatMap (Fe inner)).length=2+Bd inner (L.take i):=by rw[qan,AZ,flat_len]
   obtain⟨acc,hacc⟩:=qD (Bq n 2++(L.take i).flatMap (Fe inner));rw[<-hacc]at R4 hal |-;have hpg:x.it.page<9223372036854775808:=hpgs x.it (qad hxL);refine Ap (Aa (Aq (AE (Ad (AY R Bw Bm U U ?_)))));refine EY x.enc Ds Bm U U ((R.ext0 (hxb.trans hx)).row hx1 U) (Bj C3 H ?_);rintro b7 w - H;refine Bo Bm U U U (by exact Im.oneE _) H at0 U ?_;rintro w H;refine qA (Aq (Ad (Af DD U (Be Gf U (Ar (hnode (hx.trans H.ext)) (0+0)) ?_))));refine qA (Au _ U ?_ ?_)
   .intro h2;refine Ad (Ac U (qA (Av (Aj U (Af Gg U (AH DW U H at0 U (DP U Ge Hn ?_)))))));refine Ai qB (Gr a4 c4 _ acc x.it.page 4 _ (R4.ext0 H.ext) U (hm:=by omega) (by omega)) U ?_;rintro v w F26;rw[Apz]at F26;obtain⟨a26,c26,rfl,R26,hc26⟩:=Fresh.rdB F26;replace H:=H.call F26.ext;refine Ak U (qA (Ad (Aj U (Af FC U (AH B4 U H at0 U (Ai qB (FI a26 c26 _ (acc++Bq x.it.page 4) x.ka x.kc _ x.it.key _ R26 U (by rw[qan,AZ];omega) (hxo.k.1.ext0 ((hxb.trans hx).trans H.ext)) U hxo.kc) U ?_))))));rintro v w ⟨y,rfl,F31⟩;obtain⟨a31,c31,rfl,R31,hc31⟩:=Fresh.rdB F31;replace H:=H.call F31.ext;refine AQ U (Ah U U (Ah U U (Ak U (qA (Ad (Af DD U (Be Gf U (Ar (hnode (hx.trans H.ext)) (0+0)) ?_)))))));refine BX U ?_;rw[h2];refine qA (Bz U (Ap (AF (Aa (Av (A7 U U ?_))))))
    refine Ae U (qA ?_)
    have he:acc++Bq x.it.page 4++(Bq x.it.key.length 2++x.it.key)=Bq n 2++(L.take (i+1)).flatMap (Fe true):=by
     rw[<-h2,hfs,hacc,h2];simp[Fe]
    rw[he]at R31;refine⟨(i+1,a31,c31),rfl,⟨rfl,qab (fun k=>Value.slice a31 k c31) (qab List.length he),qab (Value.int .u8) (show(3:Int)=_ by simp),trivial⟩,⟨by dsimp only;omega,hx.trans H.ext,R31⟩,by dsimp only;omega⟩
   .intro h2;refine Ap (Aa (Ad (Aj U (Af FC U (AH B4 U H at0 U (Ai qB (FI a4 c4 _ acc x.ka x.kc _ x.it.key _ (R4.ext0 H.ext) U (by omega) (hxo.k.1.ext0 ((hxb.trans hx).trans H.ext)) U hxo.kc) U ?_))))));rintro v w ⟨y,rfl,F31⟩;obtain⟨a31,c31,rfl,R31,hc31⟩:=Fresh.rdB F31;replace H:=H.call F31.ext;refine AQ U (Ah U U (Ah U U (Ak U (qA (Ad (Af DD U (Be Gf U (Ar (hnode (hx.trans H.ext)) (0+0)) ?_)))))));refine BX U ?_;rw[h2];refine qA (EA U (Av (Aj U (Af Le U (AH B4 U H at0 U ?_)))));have hl5:(acc++(Bq x.it.key.length 2++x.it.key)).length=acc.length+(2+x.it.key.length):=(by rw[qan,qan,AZ]);refine Ai qB (FI a31 c31 _ (acc++(Bq x.it.key.length 2++x.it.key)) x.va x.vc _ x.it.val _ R31 U (by omega) (hxo.v.1.ext0 ((hxb.trans hx).trans H.ext)) U hxo.vc) U ?_;rintro v w ⟨y,rfl,F41⟩
    obtain⟨a41,c41,rfl,R41,hc41⟩:=Fresh.rdB F41;replace H:=H.call F41.ext;refine AQ U (Ah U U (Ah U U (Ak U (Ab (AF (Aa (Av (A7 U U ?_))))))));refine Ae U (qA ?_)
    have he:acc++(Bq x.it.key.length 2++x.it.key)++(Bq x.it.val.length 2++x.it.val)=Bq n 2++(L.take (i+1)).flatMap (Fe false):=by
     rw[<-h2,hfs,hacc,h2];simp[Fe]
    rw[he]at R41;refine⟨(i+1,a41,c41),rfl,⟨rfl,qab (fun k=>Value.slice a41 k c41) (qab List.length he),qab (Value.int .u8) (show(if false=true/\0<i then(3:Int)else 2)=(if false=true/\0<i+1 then(3:Int)else 2)by simp),trivial⟩,⟨by dsimp only;omega,hx.trans H.ext,R41⟩,by dsimp only;omega⟩
  .intro h1;replace h1:=AW h1;have hii:i=n:=by omega
   subst hii;have hLi:L.take i=L:=by rw[hnum,qbe]
   have hbody:Bq i 2++(L.take i).flatMap (Fe inner)=HQ inner L:=by rw[hLi,HQ,<-hnum]
   have hbl:=Mn inner L;have htl:=Ll (inner:=inner) hsz;rw[hbody]at R4 |-;rw[Ai6 inner L i hnum];refine B3 (Ay (Ay (Bb (Aa (Ad (Ae U (Aj U (Ai qB (Wb (HR inner L) a4 c4 _ (HQ inner L) _ R4 U) U ?_))))))));rintro v w3 SP;obtain⟨sa,sn,sc,e,rfl⟩:∃sa sn sc e,v=.tuple #[.slice sa sn sc,.int .i64 e]:=by(rcases SP with⟨_,rfl,_⟩|⟨_,s,rfl,B⟩;exact⟨_,_,_,_,rfl⟩;obtain⟨a9,c9,rfl,-⟩:=B.ex;exact⟨_,_,_,_,rfl⟩)
   refine Ah U U (Ah U U (Ak U (Ac U (qA (Ax (Ce (v1:=(.slice _ _ _)) (v2:=(.int _ _)) U U U U ?_))))));have hxx:=hxb.trans hx;have hsz:=hxx.size
   rcases SP with⟨h1,h2,h3⟩|⟨h1,s,h2,B⟩
   .exact .inl ⟨h1,h2,hxx.trans h3⟩
   .obtain⟨a9,c9,h5,R9,h6,h7⟩:=B.ex;exact .inr ⟨h1,s,h2,⟨⟨a9,c9,h5,R9,h6,qav hsz h7⟩,hxx.trans B.ext⟩⟩
def Ai8(w:World)(ids:List Nat):Mut:=fun x=>x<w.heap.size\/x∈ids
theorem Ai9{w0 w w':World}{L L':List (Nat × Obj)}(H:Ctx w (L.map (·.1)) w' L'):Grown (Ai8 w0 (L.map (·.1))) (Ai8 w0 (L'.map (·.1))) w w' :=
 ⟨⟨L.map (·.1),fun x h => .inr h,H.ext⟩,fun x h=>by
  rcases h with h|h
  .exact .inl (.inl h)
  .obtain⟨y,hy,rfl⟩:=qah.1 h
   rcases H.own y hy with h5|h5
   .exact .inl (.inr h5)
   .exact .inr h5⟩
theorem Aja(inner:Bool)(b:Byt)(at':Nat):Ft inner b 0 at'=some ([],at'):=rfl
theorem Qo{inner:Bool}{b:Byt}{n at':Nat}(h:Nh inner b at'=none):Ft inner b (n+1) at'=none:=by
 unfold Ft;rw[h]
theorem Qp{inner:Bool}{b:Byt}{n at' m:Nat}{x:It}(h:Nh inner b at'=some (x,m)):Ft inner b (n+1) at'=(Ft inner b n m).map fun r=>(x::r.1,r.2):=by
 rw[Ft];rw[h];simp only;cases Ft inner b n m <;> rfl
theorem Ajb{b:Byt}{w w':World}{v:Value}(h:NR b w v w'):∃a c,v=.tuple #[bv (Dw b),.slice a (BC b).length c,.int .i64 (Fd b)]/\Ext [] w w'/\Rdx w' (Old w) a (BC b)/\(BC b).length<=c:=by
 rcases h with⟨h,rfl,hx⟩|⟨h,s,rfl,F⟩
 .exact⟨none,0,by rw[Dw,BC,qag h];rfl,hx,by rw[BC,qag h];exact Rdx.nil,by rw[BC,qag h];exact qae _⟩
 .obtain⟨a,c,rfl,R,hc,hn⟩:=Fresh.newB F;exact⟨a,c,by rw[Dw,BC,h];rfl,F.ext,by rw[BC,h];exact Rdx.fresh R hn,by rw[BC,h];exact hc⟩
def OkL(b:Byt)(x:It):Prop:=x.key.length<=b.length/\x.val.length<=b.length/\x.page<4294967296
theorem Ajc(a:Option Addr)(c m:Nat)(b:Byt)(w:World)(R:Rd w a 1 B8 b)(hb:b.length=m)(hc:m<=c)(hm:m<=1000000:=by omega):
  Ret prog 203 #[.slice a m c] w fun v w'=>∃(inner:Bool) (a':Option Addr) (n' c':Nat),v=.tuple #[.agg #[.bool inner,.slice a' n' c'],.bool (Eu b).isSome]/\Ext [] w w'/\∀i L,Eu b=some (i,L)->inner=i/\Its w' (Old w) a' n' c' L/\∀x∈L,OkL (BC b) x:=by
 subst hb;obtain⟨w0,rfl,H⟩:=qE w;have hbl:=Pt b;obtain⟨g,nx,htv,hg,hnx,h0⟩:=UT (BC b) 0;have hkt:=(Dw b).toNat_lt;obtain⟨ib,hib⟩:=qD (decide ((Dw b).toNat=3))
 have hP0:∀{x:Bool},(decide (Fd b=0) && (decide (Dj (BC b) ((0:Nat):Int) 2=0) && (decide ((Dw b).toNat=2) || decide ((Dw b).toNat=3))))=x->Eu b=if x=true then XA ib (BC b) (Ft ib (BC b) (numN ((BC b).take 2)) 2)else none:=by
  intro x hx;rw[hib];unfold Eu
  by_cases h1:Fd b=0
  .have e1:BC b=CR b:=by rw[BC,qal h1];rfl
   have e2:Dw b=GF b:=by rw[Dw,qal h1];rfl
   rw[e1,e2]at hx |-;subst hx
   by_cases h2:Dj (CR b) 0 2=0/\((GF b).toNat=2\/(GF b).toNat=3)
   .rw[if_pos ⟨h1,h2⟩,if_pos (by simpa[h1]using h2)]
   .rw[if_neg (fun h=>h2 h.2),if_neg (fun h=>h2 (by simpa[h1]using h))]
  .rw[if_neg (fun h=>h1 h.1)];subst hx;rw[if_neg (by simp[h1])]
 refine A6 (fn:=f203) func203 U [.slice a b.length c] U (Ad (Bj Cl H ?_));rintro b2 w - H;refine An U (qA (Ad (Aj U (Ai qB (Wd a c _ b _ (R.ext0 H.ext) U hc) U ?_))));have hb2:=H.lt (k:=0) rfl;rintro v w16 hop;obtain⟨a5,c5,rfl,hx16,X5,hc5⟩:=Ajb hop;have Hold:=H.call hx16;replace H:=Ctx.startL (fun x hx=>Hold.blk x hx) Hold.nd;have hge:=(Hold.own _ (qaf ..)).elim (fun h=>by cases h) id;have R5:∀{z:World},Ext [b2] w16 z->Rd z a5 1 B8 (BC b):=(fun{z} hz=>(X5.past hz (fun x hx=>by rw[qaa.1 hx];exact hb2)).1);refine AQ U (Ah U U (Ah U U (Ah U U (Ac U (Ak U (Ac U (qA (Ad (Ae U ?_)))))))));refine B6 U U ?_;rw[show decide (((Dw b).toNat:Int)=3)=ib by rw[hib];exact decide_eq_decide.2 (by omega)];refine B2 [.bool ib,.slice none 0 0] Ha Cl (Bj Cl H ?_)
 rintro b7 w - H;refine Bo Bh U U U (by simp[Bi]) H at0 U ?_;rintro w H;refine qA (Ad (Aj U (Ai qB (Hd a5 c5 _ (BC b) ((0:Nat):Int) 2 _ (R5 H.ext) U hc5) U ?_)));rintro v w ⟨rfl,hx25⟩;rw[htv];replace H:=H.call hx25;refine AQ U (Ah U U (Ah U U (Ah U U (Ac U (Ac U (Ac U (qA (Aq (Ad (BE (α:=Unit) 17591649173504 (fun _=>[(43,.bool (!(decide (Fd b=0) && (decide (Dj (BC b) ((0:Nat):Int) 2=0) && (decide ((Dw b).toNat=2) || decide ((Dw b).toNat=3))))))]) (fun _ w'=>Ctx w16 [b2] w' [(b7,Bl 183 [.bool ib,.slice none 0 0]),(b2,Bl 183 [.bool false,.slice none 0 0])]) U ?_ ?_))))))))))
 .refine Ae U (Ba U U (AA U (AR 31 U ?_ ?_)))
  .intro h1;replace h1:=Bu h1;refine Ag U (Ag U (AN U (.bool _) U (AA U (Ag U (Ag U (Ag U (Ag U (Ag U (Ag U ?_)))))))));refine Ag U (AN U (.bool _) U (Ab ?_));exact⟨rfl,(),rfl,⟨qab Value.bool (by rw[hib]at *;rw[qar];simp_all;try omega),trivial⟩,H⟩
  .intro h2;replace h2:=Bv h2;refine Ae U (Ba U U (AK U (.bool _) U (AA U (AR 35 U ?_ ?_))))
   .intro h3;replace h3:=Bu h3;refine Ag U (Ag U (Ag U (Ag U (Ag U (Ag U (Ag U (AN U (.bool _) U (Ab ?_))))))));exact⟨rfl,(),rfl,⟨qab Value.bool (by rw[hib]at *;rw[qar];simp_all;try omega),trivial⟩,H⟩
   .intro h4;replace h4:=Bv h4;refine Ae U (Ba U U (AA U (AR 38 U ?_ ?_)))
    .intro h5;replace h5:=Bu h5;refine Af DD U (AH Gf U H at0 U (BX U (AN U (.bool _) U (AK U (.bool _) U (Ab ?_)))));exact⟨rfl,(),rfl,⟨qab Value.bool (by rw[hib]at *;rw[qar];simp_all;try omega),trivial⟩,H⟩
    .intro h6;replace h6:=Bv h6;refine Ag U (Ag U (Ag U (AK U (.bool _) U (AK U (.bool _) U (Ab ?_)))));exact⟨rfl,(),rfl,⟨qab Value.bool (by rw[hib]at *;rw[qar];simp_all;try omega),trivial⟩,H⟩
 rintro - j43 w H;have hx0:∀{z:World},Ext [b2] w16 z->Ext [] w0 z:=fun{z} h=>Hold.ext.then h (fun x hx => .inr (by rw[qaa.1 hx];exact hge));refine Au _ U ?_ ?_
 .intro h1;replace h1:=Cz h1;have hP:=hP0 h1;rw[if_neg (by simp)]at hP;refine Ad (B2 [.bool false,.slice none 0 0] Ha Cl ?_);refine Bo Bh U U U (by simp[Bi]) H at1 U ?_;rintro w H;refine An U (qA (Ax (Ao (Dx U U U BQ Bh H at1 U (show _=(.bool _)from rfl) ?_))));exact⟨false,none,0,0,by rw[hP];rfl,hx0 H.ext,fun i L h=>by rw[hP]at h;cases h⟩
 .intro h1;replace h1:=C0 h1;have hP:=hP0 h1;rw[if_pos rfl]at hP;simp only[qao,qap]at h1;obtain⟨hg2,hnx2⟩:=h0 h1.2.1;subst hnx2;rw[List.drop_zero]at hg2;rw[<-hg2]at hP
  refine Ap (Aa (Aq (Ad (Ae U (Ae U (qA (AE (B7 295147834810608663048 (α:=Nat × Nat × List Im × Option Addr × Nat × List Value) (fun s=>[(46,.int .u64 (s.1:Int)),(9,.int .i64 (s.2.1:Int))]) (fun s w'=>s.1<=g/\s.2.1<=505/\Ctx w16 [b2] w' ([(b7,Bl 183 [.bool ib,.slice s.2.2.2.1 s.2.2.1.length s.2.2.2.2.1]),(b2,Bl 183 [.bool false,.slice none 0 0])]++ent s.2.2.2.1 185 s.2.2.2.2.2)/\OS s.2.2.2.1 s.2.2.1.length s.2.2.2.2.1 3 s.2.2.2.2.2 (s.2.2.1.flatMap Im.enc)/\(∀m∈s.2.2.1,m.Ok w' (Ai8 w0 (([(b7,Bl 183 [.bool ib,.slice s.2.2.2.1 s.2.2.1.length s.2.2.2.2.1]),(b2,Bl 183 [.bool false,.slice none 0 0])]++ent s.2.2.2.1 185 s.2.2.2.2.2).map (·.1)))/\OkL (BC b) m.it)/\s.2.2.1.length=s.1/\Ft ib (BC b) g 2=(Ft ib (BC b) (g - s.1) s.2.1).map fun r=>(s.2.2.1.map (·.it)++r.1,r.2)) (fun s=>g - s.1) (0,2,[],none,0,[]) U ?_ ?_ ?_))))))))
  .exact⟨rfl,rfl,trivial⟩
  .refine⟨qak _,by decide,H,OS.nil,(fun m h=>by cases h),rfl,?_⟩;dsimp only;rw[Nat.sub_zero];cases Ft ib (BC b) g 2 <;> rfl
  .rintro⟨k,at',ms,aa,cc,full⟩ j w ⟨hk,hat,H,O,hms,hml,hpg⟩;dsimp only at hk hat H O hms hml hpg;dsimp only;refine Ad (Bn U U (qA (Aq (Au _ U ?_ ?_))))
   .intro h2;replace h2:=AV h2;rw[show g - k=(g - (k+1))+1 by omega]at hpg;refine Ap (Aa (Aq (AE (Ad (Af DD U (AH Gf U H at0 U (Aj U (Ae U (Ai qB (Apy ib a5 c5 _ (BC b) at' _ (R5 H.ext) U hc5) U ?_)))))))));have hszw:=(fun y hy=>Al (H.blk y hy));have hEw:=hx0 H.ext;rintro v w1 ⟨x,nx,e,rfl,hx53,hxo,hnxb,hkl,hvl,hpl,he0,he1⟩;have Hold2:=H.call hx53;replace H:=Ctx.startL (fun x hx=>Hold2.blk x hx) Hold2.nd;refine AQ U (Ah U U (Ah U U (Ah U U (Bj C3 H ?_))));rintro b11 w - H;refine Bo Bm U U U (by exact Im.oneE _) H at0 U ?_;rintro w H;refine Ac U (Ac U (qA (Aq (Ad (Ae U (Ba U U (qA (Au _ U ?_ ?_))))))))
    .intro h3;replace h3:=Bu h3;rw[Qo (he1 h3)]at hpg;rw[hpg]at hP;have hxx:Ext [] w0 w1:=hx0 Hold2.ext;refine Ad (B2 [.bool false,.slice none 0 0] Ha Cl ?_);refine Bo Bh U U U (by simp[Bi]) H at2 U ?_;rintro w H;refine An U (qA (Ax (Ao (AL (Ao (Ao (AL (Ao (Dx U U U BQ Bh H at2 U (show _=(.bool _)from rfl) ?_)))))))));refine⟨false,none,0,0,by rw[hP];rfl,hxx.then H.ext (fun y hy => .inr ?_),fun i L h=>by rw[hP]at h;cases h⟩;obtain⟨z,hz,rfl⟩:=qah.1 hy
     rcases Hold2.own z hz with h5|h5
     .rw[qaa.1 h5];exact hge
     .have:=Hold.ext.size;omega
    .intro h3;replace h3:=Bv h3;have hone:=he0 h3;rw[Qp hone]at hpg;refine Ap (Aa (Av (Af Br U (AH BT U H at1 U (BN Ds Bm U H at0 U (BJ _ (.agg _) Bw Bm C3 U U U U H ?_))))));rintro b63 w - H;refine BO (L:=[_,_,_]) Bw Bw Bm Kn C3 U U U H O U (Im.oneE x) ?_;rintro a64 c64 full64 w H O;refine Ae U (Af Br U (Bf (.slice _ _ _) CP U U U H at1 (by(simp;done)) ?_));rintro w H;refine Ac U (Ab (AF (Aa (Av (Kh U U U ?_)))));refine Ae U (qA ?_);have hL1:(ms++[x]).length=ms.length+1:=by simp
     have H2:Ctx w1 (([(b7,Bl 183 [.bool ib,.slice aa ms.length cc]),(b2,Bl 183 [.bool false,.slice none 0 0])]++ent aa 185 full).map (·.1)) w ([(b7,Bl 183 [.bool ib,.slice a64 (ms++[x]).length c64]),(b2,Bl 183 [.bool false,.slice none 0 0])]++ent a64 185 full64):=by rw[hL1];exact H.tail
     have G:=Ai9 (w0:=w0) H2;refine⟨(k+1,nx,ms++[x],a64,c64,full64),rfl,⟨rfl,rfl,trivial⟩,⟨by dsimp only;omega,by dsimp only;omega,Ctx.nil_app (Ctx.back (L2:=[]) (Ctx.app_nil Hold2) H2),by dsimp only;rw[hL1,qbf];simpa using O,fun m hm=>?_,by dsimp only;omega,?_⟩,by dsimp only;omega⟩
     .dsimp only at hm |-
      rcases qau.1 hm with hm|hm
      .exact⟨((hms m hm).1.call hx53).turn G,(hms m hm).2⟩
      .rw[qaa.1 hm];refine⟨(hxo.weak fun y hy=>?_).turn G,hkl,hvl,hpl⟩
       rcases hy with hy|hy
       .exact qas hy hEw.size
       .obtain⟨z,hz,rfl⟩:=qah.1 hy;exact hszw z hz
     .dsimp only;rw[hpg]
      cases Ft ib (BC b) (g - (k+1)) nx with
      |none=>rfl
      |some r=>simp
   .intro h2;replace h2:=AW h2;have hkg:k=g:=by omega
    subst hkg;rw[qc1,Aja]at hpg;rw[hpg]at hP;simp only[qbc,qa3]at hP;have hxx:Ext [] w0 w:=hx0 H.ext;have Rm:=OS.rd O (fun x hx=>H.blk x (qax _ hx)) (fun _ _=>rfl) (by decide);obtain⟨wE,rfl⟩:=qD w;have hb7:wE.heap[b7]?=some (Bl 183 [.bool ib,.slice aa ms.length cc]):=H.get at0
    have hbs:b2≠b7:=fun e=>by
     have h5:=H.nd;simp[e]at h5
    have Hq:=H;have H:=Ctx.start1 (Hq.get at1);have hkeep:∀{z:World},Ext [b2] wE z->z.heap[b7]?=some (Bl 183 [.bool ib,.slice aa ms.length cc]):=fun{z} h=>by rw[h.block b7 (Al hb7) (by simp;exact fun e=>hbs e.symm)];exact hb7
    have hits:∀{z:World},Ext [b2] wE z->Its z (Old w0) aa ms.length cc (ms.map (·.it))/\∀y∈ms.map (·.it),OkL (BC b) y:=fun{z} hz=>by
     have hS:∀y∈[b2],w0.heap.size<=y/\y∈(([(b7,Bl 183 [.bool ib,.slice aa ms.length cc]),(b2,Bl 183 [.bool false,.slice none 0 0])]++ent aa 185 full).map (·.1)):=fun y hy=>by
      rw[qaa.1 hy];exact⟨hge,by simp⟩
     have G:Grown (Ai8 w0 (([(b7,Bl 183 [.bool ib,.slice aa ms.length cc]),(b2,Bl 183 [.bool false,.slice none 0 0])]++ent aa 185 full).map (·.1))) (Ai8 w0 (([(b7,Bl 183 [.bool ib,.slice aa ms.length cc]),(b2,Bl 183 [.bool false,.slice none 0 0])]++ent aa 185 full).map (·.1))) wE z:=⟨⟨[b2],fun y hy => .inr (hS y hy).2,hz⟩,fun y hy => .inl hy⟩;refine⟨⟨⟨ms,?_,?_,rfl,fun m hm=>((hms m hm).1.turn G).weak fun y hy => .inl hy⟩,by rw[qaj],O.le⟩,fun y hy=>?_⟩
     .cases haa:aa with
      |none =>
       have h8:=O.le;have h9:=O.none' haa;rw[qa4 (show ms.length=0 by omega)];exact Rd.nil
      |some q =>
       rw[<-haa];refine Rm.ext hz fun hq=>?_;have h5:=Hq.nd;rw[haa]at h5 hq;simp only[qaa,adr]at hq;simp[ent,hq]at h5
     .cases haa:aa with
      |none=>exact .inl (qa4 (by have h8:=O.le;have h9:=O.none' haa;omega))
      |some q =>
       refine .inr fun hq=>?_;have h5:=Hq.own (q.block,Bl 185 full) (qax _ (by rw[haa];exact qaa.2 rfl));have h6:=Hold.ext.size;unfold Old at hq;simp only[adr]at hq
       rcases h5 with h5|h5
       .have:=qaa.1 h5;dsimp only at this;omega
       .dsimp only at h5;omega
     .obtain⟨m,hm,rfl⟩:=qah.1 hy;exact(hms m hm).2
    refine B3 (Ay (Ay (Bb (Aa (BR [([0,1,2,3,4,5,6,7,8,9,10],11),([],12)] (fun z=>z.heap[b7]?=some (Bl 183 [.bool ib,.slice aa ms.length cc])) [] mixed (hb7) ?_)))));refine AC U U (Qa _ BQ Bh U U (fun _ hx=>(fun j v hv=>by rw[Ar hx,qa2];exact hv)) ?_);refine B9 U (BF U (Qb AX U (t_eql U U U (LX U U (KS 73 U ?_ ?_)))))
    .intro h3;replace h3:=AV h3;have h3':at'=(BC b).length:=by omega
     refine AD Br U (BG BT U (fun _ hx=>Ar hx (0+1)) ?_);refine Qb Bw U (Ann U U U (Ali U U (.bool _) U (AU ?_)));replace H:=H.drew;refine Bo Bh U U U (by simp[Bi]) H at0 U ?_;rintro w H;refine Ab (Bc (hkeep H.ext) (AC U U ?_));refine AU (An U (Ab (Bc (hkeep H.ext) (B1 (Ax (Dx U U U BQ Bh H at0 U (show _=(.bool _)from rfl) ?_))))));refine⟨ib,aa,ms.length,cc,?_,hx0 (Hq.ext.then H.ext fun y hy => .inl hy),fun i L h=>?_⟩
     .rw[hP]
      cases ms with
      |nil=>simp[XA]
      |cons m ms=>simp[XA,h3']
     .rw[hP]at h;simp only[XA]at h
      split at h
      .injection h with h
       injection h with h5 h6
       subst h5 h6;exact⟨rfl,hits H.ext⟩
      .cases h
    .intro h3;replace h3:=AW h3;have h3':¬at'=(BC b).length:=by omega
     have hP':Eu b=none:=by rw[hP];simp[XA,h3']
     refine Co U (Co U (Co U (Co U (Abi U U (.bool _) U (AU ?_)))));replace H:=H.drew;refine Bo Bh U U U (by simp[Bi]) H at0 U ?_;rintro w H;refine Ab (Bc (hkeep H.ext) (AC U U ?_));refine AU (An U (Ab (Bc (hkeep H.ext) (B1 (Ax (Dx U U U BQ Bh H at0 U (show _=(.bool _)from rfl) ?_))))));exact⟨ib,aa,ms.length,cc,by rw[hP'];rfl,hx0 (Hq.ext.then H.ext fun y hy => .inl hy),fun i L h=>by rw[hP']at h;cases h⟩
def stv(s:Nat):Value := .int .u8 (s:Int)
def TPg:Nat:=145
def TSt:Nat:=146
structure PgAt(w:World)(bp ba:Nat)(P:List Nat):Prop where
 hd:w.heap[bp]?=some (Bl TPg [.slice (some ⟨ba,0,none⟩) P.length P.length])
 st:w.heap[ba]?=some (Bl TSt (P.map stv))
 ne:bp≠ba
 ok:∀s∈P,s<=3
 len:P.length<=4096
def CW(P:List Nat):Nat:=(P.takeWhile fun s=>decide (s≠0)).length
def EE(P:List Nat)(k:Nat):List Nat:=if P[k]?=some 1 then P.set k 3 else if P[k]?=some 2 then P.set k 0 else P
def BM(s:Nat):Nat:=if s=2 then 1 else if s=3 then 0 else s
def DE(s:Nat):Nat:=if s=2 then 0 else if s=3 then 1 else s
def DF(P:List Nat):Nat:=P.countP fun s=>decide (s=0)
theorem PgAt.keep{w w':World}{bp ba:Nat}{P:List Nat}{S:List Nat}(h:PgAt w bp ba P)(hx:Ext S w w')(h1:bp∉S)(h2:ba∉S):PgAt w' bp ba P :=
 ⟨by rw[hx.block bp (Al h.hd) h1];exact h.hd,by rw[hx.block ba (Al h.st) h2];exact h.st,h.ne,h.ok,h.len⟩
theorem Mp{w:World}{ba t:Nat}{P:List Nat}{k s:Nat}(h:w.heap[ba]?=some (Bl t (P.map stv)))(hk:P[k]?=some s):w.cell? ⟨ba,0+k*1,none⟩=some (stv s):=by
 rw[Ar h,qa2,qcj,qat,hk];rfl
theorem Ap0(P:List Nat)(k s:Nat):(P.map stv).set k (stv s)=(P.set k s).map stv:=by rw[qdy]
theorem PgAt.set{w w':World}{bp ba:Nat}{P:List Nat}(h:PgAt w bp ba P)(hx:Ext [ba] w w'){k s:Nat}(hs:s<=3)(hb:w'.heap[ba]?=some (Bl TSt ((P.map stv).set k (stv s)))):PgAt w' bp ba (P.set k s) :=
 ⟨by rw[hx.block bp (Al h.hd) (by simpa using h.ne),qch];exact h.hd,by rw[hb,Ap0],h.ne,fun x hx=>(qfd hx).elim (h.ok x) (fun e=>e ▸ hs),by rw[qch];exact h.len⟩
section
variable {w:World}{bp ba:Nat}{P:List Nat}
theorem Oi(h:PgAt w bp ba P):Ret prog 114 #[ptr bp] w fun v w'=>v=.int .i64 (P.length:Int)/\w=w':=by
 obtain⟨w0,rfl⟩:=qD w;refine A6 (fn:=f114) func114 U [.pointer (some ⟨bp,0,none⟩)] U ?_;refine Ad (Ac U (qA (Aq (Ad (Am U (BW St U ?_))))));refine qA (Bz U (Ap (Aa (Ad (Am U (A8 U (Af DY U (Be Gd U (Ar h.hd (0+0)) ?_))))))));refine AP EP U (Ac U (qA (Ax (AG (v:=(.int _ _)) U U U ?_))));exact⟨rfl,rfl⟩
def Oj(P:List Nat)(k:Int):Bool:=decide (0<=k) && decide (k<(P.length:Int))
theorem Ab7(h:PgAt w bp ba P)(k:Int):Ret prog 150 #[ptr bp,.int .i64 k] w fun v w'=>v=.bool (Oj P k)/\w=w':=by
 obtain⟨w0,rfl⟩:=qD w;refine A6 (fn:=f150) func150 U [.pointer (some ⟨bp,0,none⟩),.int .i64 k] U ?_;refine Ad (An U (qA (Ad (Am U (LZ U St U ?_)))));refine AA U (Ae U (IE U U (AN U (.bool _) U (AA U (AR 11 U ?_ ?_)))))
 .intro h1;replace h1:=AV h1;refine Ae U (Am U (A8 U (Af DY U (Be Gd U (Ar h.hd (0+0)) ?_))));refine AP EP U (Bn U U (AN U (.bool _) U (An U (qA (Ax (AG (v:=(.bool _)) U U U ?_))))));exact⟨qab Value.bool (by unfold Oj;rw[qar];simp_all;try omega),rfl⟩
 .intro h2;replace h2:=AW h2;refine Ag U (Ag U (Ag U (Ag U (Ag U (Ag U (Ag U (AK U (.bool _) U (An U (qA ?_)))))))));refine Ax (AG (v:=(.bool _)) U U U ?_);exact⟨qab Value.bool (by unfold Oj;rw[qar];simp_all;try omega),rfl⟩
theorem Wj(h:PgAt w bp ba P)(k:Int):Ret prog 132 #[ptr bp,.int .i64 k] w fun v w'=>v=.int .i64 (bif Oj P k then 0 else 1)/\w=w':=by
 obtain⟨w0,rfl⟩:=qD w;refine A6 (fn:=f132) func132 U [.pointer (some ⟨bp,0,none⟩),.int .i64 k] U ?_;refine Ad (Ac U (qA (Aq (AE (Ad (Am U (BW St U ?_)))))));refine An U (qA (Bz U (Ad (Am U (Ae U (Ai qB (Ab7 h k) U ?_))))));rintro v w ⟨rfl,rfl⟩;refine BX U (An U (qA (Au _ U ?_ ?_)))
 .intro h1;replace h1:=Cz h1;refine Ad (Ac U (qA (Ax (AL (Ao (AG (v:=(.int _ _)) U U U ?_))))));exact⟨by rw[show Oj P k=false by simpa using h1];rfl,rfl⟩
 .intro h1;replace h1:=C0 h1;refine Ap (AF (Aa (Ad (Ac U (qA (Ax (AG (v:=(.int _ _)) U U U ?_)))))));exact⟨by rw[show Oj P k=true by simpa using h1];rfl,rfl⟩
theorem XC{P:List Nat}{k:Nat}(h1:∀j x,j<k->P[j]?=some x->x≠0)(hk:k<=P.length)(h2:∀x,P[k]?=some x->x=0):CW P=k :=
 HH (fun j x hj hx=>qal (h1 j x hj hx)) hk fun x hx=>qag (fun h=>h (h2 x hx))
theorem Ajd(h:PgAt w bp ba P):Ret prog 157 #[ptr bp] w fun v w'=>(CW P<P.length/\v=.tuple #[.int .i64 (CW P:Int),.int .i64 0]/\PgAt w' bp ba (P.set (CW P) 2)/\Ext [ba] w w')\/(CW P=P.length/\v=.tuple #[.int .i64 0,.int .i64 7]/\w=w'):=by
 obtain⟨w0,rfl⟩:=qD w;have hlen:=h.len;refine A6 (fn:=f157) func157 U [.pointer (some ⟨bp,0,none⟩)] U ?_;refine Ad (Ac U (Ac U (qA (Aq (Ad (Am U (BW St U ?_)))))));refine qA (Bz U (Ap (Aa (Aq (Ad (Am U (A8 U (Af DY U (Be Gd U (Ar h.hd (0+0)) ?_)))))))));refine AP EP U (Ae U (qA (AE (B7 268427324 (α:=Nat) (fun i=>[(13,.int .i64 (i:Int))]) (fun i w'=>w0=w'/\i<=P.length/\∀j x,j<i->P[j]?=some x->x≠0) (fun i=>P.length - i) 0 U ?_ ?_ ?_))))
 .exact⟨rfl,trivial⟩
 .exact⟨rfl,qak _,fun j x hj=>absurd hj (qc3 _)⟩
 .rintro i j w ⟨rfl,hi,hb⟩;refine Ad (Bn U U (qA (Aq (Au _ U ?_ ?_))))
  .intro h1;replace h1:=AV h1;obtain⟨s,hs⟩:=AO (l:=P) (i:=i);have hs3:=h.ok s (qad hs);refine Ap (Aa (Aq (AE (Ad (Ae U (Ca EP Ep U U ?_))))));refine Be Pd U (Mp h.st hs) ?_;refine Ac U (Ac U (qA (Ad (Ae U (B6 U U (qA (Au _ U ?_ ?_)))))))
   .intro h2;replace h2:=AV h2;have ht:CW P=i:=XC hb hi (fun x hx=>by rw[hs]at hx;cases hx;omega);have H:=Ctx.start1 h.st;refine Ad (Am U (A8 U (Af DY U (Be Gd U (Ar h.hd (0+0)) ?_))));refine Ae U (Ca EP Ep U U ?_);refine Bf (.int _ _) Ep U U U H at0 (by(simp;omega)) ?_;rintro w H;refine qA (Ad (Ae U (Ac U (Ac U (qA (Ax (AL (Ao (Ao (AL (Ao (Ce (v1:=(.int _ _)) (v2:=(.int _ _)) U U U U ?_))))))))))));refine .inl ⟨by omega,by rw[ht],?_,H.ext⟩;rw[ht];exact h.set H.ext (by decide) (by rw[H.get at0];simp[stv])
   .intro h2;replace h2:=AW h2;refine Ap (AF (Aa (Av (A7 U U ?_))));refine Ae U (qA ?_);refine⟨i+1,rfl,⟨rfl,trivial⟩,⟨rfl,by omega,fun j x hj hx=>?_⟩,by omega⟩
    rcases qbr j i with h3|h3
    .exact hb j x h3 hx
    .obtain rfl:j=i:=by omega
     rw[hs]at hx;cases hx;omega
  .intro h1;replace h1:=AW h1
   have ht:CW P=P.length:=by
    have hii:i=P.length:=by omega
    subst hii;exact XC hb (qae _) (fun x hx=>by have:=(qaq.1 hx).1;omega)
   refine B3 (Ay (Ay (Bb (Aa (Ad (Ac U (Ac U (qA (Ax (Ce (v1:=(.int _ _)) (v2:=(.int _ _)) U U U U ?_))))))))));exact .inr ⟨ht,rfl,rfl⟩
theorem XD(h:PgAt w bp ba P)(k:Nat)(hk:k<P.length):Ret prog 94 #[ptr bp,.int .i64 (k:Int)] w fun v w'=>(∃e,v=.int .i64 e)/\PgAt w' bp ba (EE P k)/\Ext [ba] w w':=by
 obtain⟨w0,rfl⟩:=qD w;have hlen:=h.len;obtain⟨s,hs⟩:=AO (l:=P) (i:=k) (h:=hk);have hs3:=h.ok s (qad hs);have hh:Oj P (k:Int)=true:=by unfold Oj;simp;omega
 have H:=Ctx.start1 h.st;have hpz:∀{z:World},Ext [ba] w0 z->z.heap[bp]?=some (Bl TPg [.slice (some ⟨ba,0,none⟩) P.length P.length]):=fun{z} hz=>by rw[hz.block bp (Al h.hd) (by simpa using h.ne)];exact h.hd
 refine A6 (fn:=f94) func94 U [.pointer (some ⟨bp,0,none⟩),.int .i64 (k:Int)] U ?_;refine Ad (Ac U (qA (Aq (Ad (Am U (Ae U (Ai qB (Wj h (k:Int)) U ?_)))))));rintro v w ⟨rfl,rfl⟩;rw[hh];refine Ac U (qA (Ad (Ae U (Ba U U (qA (Bz U (Ap (Aa (Aq (Ad ?_))))))))));refine Am U (A8 U (Af DY U (Be Gd U (Ar (hpz H.ext) (0+0)) ?_)));refine Ae U (Ca EP Ep U U ?_);refine Be Pd U (Mp (H.get at0) hs) (qA (AE (Ad (B6 U U (An U (qA (Au _ U ?_ ?_)))))))
 .intro h1;replace h1:=AV h1;have h1':P[k]?=some 1:=by rw[hs];congr 1;omega
  refine Av (Am U (A8 U (Af DY U (Be Gd U (Ar (hpz H.ext) (0+0)) ?_))));refine Ae U (Ca EP Ep U U ?_);refine Bf (.int _ _) Ep U U U H at0 (by(simp;omega)) ?_;rintro w H;refine Ab (AF (Aa (Ad (Ac U (qA (Ax (AG (v:=(.int _ _)) U U U ?_)))))));exact⟨⟨_,rfl⟩,by rw[EE,if_pos h1'];exact h.set H.ext (by decide) (by rw[H.get at0];simp[stv]),H.ext⟩
 .intro h1;replace h1:=AW h1;have h1':¬P[k]?=some 1:=by rw[hs];intro e;cases e;omega
  refine Ad (B6 U U (An U (qA (Au _ U ?_ ?_))))
  .intro h2;replace h2:=AV h2;have h2':P[k]?=some 2:=by rw[hs];congr 1;omega
   refine Av (Am U (A8 U (Af DY U (Be Gd U (Ar (hpz H.ext) (0+0)) ?_))));refine Ae U (Ca EP Ep U U ?_);refine Bf (.int _ _) Ep U U U H at0 (by(simp;omega)) ?_;rintro w H;refine Ab (AF (Aa (Ad (Ac U (qA (Ax (AG (v:=(.int _ _)) U U U ?_)))))));exact⟨⟨_,rfl⟩,by rw[EE,if_neg h1',if_pos h2'];exact h.set H.ext (by decide) (by rw[H.get at0];simp[stv]),H.ext⟩
  .intro h2;replace h2:=AW h2;have h2':¬P[k]?=some 2:=by rw[hs];intro e;cases e;omega
   refine Ad (Ac U (qA (Ax (AL (Ao (AG (v:=(.int _ _)) U U U ?_))))));exact⟨⟨_,rfl⟩,by rw[EE,if_neg h1',if_neg h2'];exact h,H.ext⟩
theorem ZR(h:PgAt w bp ba P):Ret prog 56 #[ptr bp] w fun v w'=>v=.int .i64 0/\PgAt w' bp ba (P.map BM)/\Ext [ba] w w':=by
 obtain⟨w0,rfl⟩:=qD w;have hlen:=h.len;have H:=Ctx.start1 h.st;have hpz:∀{z:World},Ext [ba] w0 z->z.heap[bp]?=some (Bl TPg [.slice (some ⟨ba,0,none⟩) P.length P.length]):=fun{z} hz=>by rw[hz.block bp (Al h.hd) (by simpa using h.ne)];exact h.hd
 refine A6 (fn:=f56) func56 U [.pointer (some ⟨bp,0,none⟩)] U ?_;refine Ad (Ac U (qA (Aq (Ad (Am U (BW St U ?_))))));refine qA (Bz U (Ap (Aa (Aq (Ad (Am U (A8 U (Af DY U (Be Gd U (Ar (hpz H.ext) (0+0)) ?_)))))))));refine AP EP U (Ae U (qA (AE (B7 34359734296 (α:=Nat) (fun i=>[(12,.int .i64 (i:Int))]) (fun i w'=>i<=P.length/\Ctx w0 [ba] w' [(ba,Bl TSt (((P.take i).map BM++P.drop i).map stv))]) (fun i=>P.length - i) 0 U ?_ ?_ ?_))))
 .exact⟨rfl,trivial⟩
 .exact⟨qak _,H⟩
 .rintro i j w ⟨hi,H⟩;refine Ad (Bn U U (qA (Aq (Au _ U ?_ ?_))))
  .intro h1;replace h1:=AV h1;obtain⟨s,hs⟩:=AO (l:=P) (i:=i);have hs3:=h.ok s (qad hs);have hlt:((P.take i).map BM).length=i:=by rw[qaj,qa0];omega
   have hmid:((P.take i).map BM++P.drop i)[i]?=some s:=by
    rw[qc8 (by omega),hlt,qc1,qcm,qc9,hs]
   have hset:∀x,BM s=x->((P.take i).map BM++P.drop i).set i x=(P.take (i+1)).map BM++P.drop (i+1):=fun x hx=>by
    rw[qfe _ _ (by omega),hlt,qc1,Bp hs,qaz,qa1]
    congr 1
    rw[Ey hs,qe1,qe2,hx];rfl
   have hsame:BM s=s->(P.take i).map BM++P.drop i=(P.take (i+1)).map BM++P.drop (i+1):=fun hx=>by
    rw[Bp hs,qaz,qa1]
    congr 1
    rw[Ey hs,qe2,hx];rfl
   refine Ap (Aa (Aq (AE (Ad (Ae U (Ca EP Ep U U ?_))))));refine Be Pd U (Mp (H.get at0) hmid) (Ac U (Ac U (qA (Ad (Ae U (qA (AE (Ad (B6 U U (An U ?_))))))))));refine qA (Au _ U ?_ ?_)
   .intro h2;replace h2:=AV h2;have he:BM s=1:=by unfold BM;rw[if_pos (by omega)]
    refine Av (Am U (A8 U (Af DY U (Be Gd U (Ar (hpz H.ext) (0+0)) ?_))));refine Ae U (Ca EP Ep U U ?_);refine Bf (.int _ _) Ep U U U H at0 (by(simp;omega)) ?_;rintro w H;refine Ab (AF (AF (Aa (Av (A7 U U ?_)))));refine Ae U (qA ?_);have hs2:=hset _ he;rw[show(((P.take i).map BM++P.drop i).map stv).set (0+((i:Int)).toNat*1) (.int .u8 1)=(((P.take i).map BM++P.drop i).set i 1).map stv by rw[qdy];simp[stv]]at H;rw[hs2]at H;exact⟨i+1,rfl,⟨rfl,trivial⟩,⟨by omega,H⟩,by omega⟩
   .intro h2;replace h2:=AW h2;refine Ad (B6 U U (An U (qA (Au _ U ?_ ?_))))
    .intro h3;replace h3:=AV h3;have he:BM s=0:=by unfold BM;rw[if_neg (by omega),if_pos (by omega)]
     refine Av (Am U (A8 U (Af DY U (Be Gd U (Ar (hpz H.ext) (0+0)) ?_))));refine Ae U (Ca EP Ep U U ?_);refine Bf (.int _ _) Ep U U U H at0 (by(simp;omega)) ?_;rintro w H;refine Ab (AF (AF (Aa (Av (A7 U U ?_)))));refine Ae U (qA ?_);have hs2:=hset _ he;rw[show(((P.take i).map BM++P.drop i).map stv).set (0+((i:Int)).toNat*1) (.int .u8 0)=(((P.take i).map BM++P.drop i).set i 0).map stv by rw[qdy];simp[stv]]at H;rw[hs2]at H;exact⟨i+1,rfl,⟨rfl,trivial⟩,⟨by omega,H⟩,by omega⟩
    .intro h3;replace h3:=AW h3;have he:BM s=s:=by unfold BM;rw[if_neg (by omega),if_neg (by omega)]
     rw[hsame he]at H;refine Ap (AF (AF (Aa (Av (A7 U U ?_)))));refine Ae U (qA ?_);exact⟨i+1,rfl,⟨rfl,trivial⟩,⟨by omega,H⟩,by omega⟩
  .intro h1;replace h1:=AW h1;have hii:i=P.length:=by omega
   subst hii;rw[qbe,qe3,qa3]at H;refine B3 (Ay (Ay (Bb (Aa (Ad (Ac U (qA (Ax (AG (v:=(.int _ _)) U U U ?_)))))))));refine⟨rfl,⟨by rw[hpz H.ext,qaj],H.get at0,h.ne,fun x hx=>?_,by rw[qaj];exact hlen⟩,H.ext⟩;obtain⟨y,hy,rfl⟩:=qah.1 hx;have:=h.ok y hy;unfold BM
   split
   .omega
   .split <;> omega
theorem Aje(h:PgAt w bp ba P):Ret prog 91 #[ptr bp] w fun v w'=>v=.int .i64 0/\PgAt w' bp ba (P.map DE)/\Ext [ba] w w':=by
 obtain⟨w0,rfl⟩:=qD w;have hlen:=h.len;have H:=Ctx.start1 h.st;have hpz:∀{z:World},Ext [ba] w0 z->z.heap[bp]?=some (Bl TPg [.slice (some ⟨ba,0,none⟩) P.length P.length]):=fun{z} hz=>by rw[hz.block bp (Al h.hd) (by simpa using h.ne)];exact h.hd
 refine A6 (fn:=f91) func91 U [.pointer (some ⟨bp,0,none⟩)] U ?_;refine Ad (Ac U (qA (Aq (Ad (Am U (BW St U ?_))))));refine qA (Bz U (Ap (Aa (Aq (Ad (Am U (A8 U (Af DY U (Be Gd U (Ar (hpz H.ext) (0+0)) ?_)))))))));refine AP EP U (Ae U (qA (AE (B7 34359734296 (α:=Nat) (fun i=>[(12,.int .i64 (i:Int))]) (fun i w'=>i<=P.length/\Ctx w0 [ba] w' [(ba,Bl TSt (((P.take i).map DE++P.drop i).map stv))]) (fun i=>P.length - i) 0 U ?_ ?_ ?_))))
 .exact⟨rfl,trivial⟩
 .exact⟨qak _,H⟩
 .rintro i j w ⟨hi,H⟩;refine Ad (Bn U U (qA (Aq (Au _ U ?_ ?_))))
  .intro h1;replace h1:=AV h1;obtain⟨s,hs⟩:=AO (l:=P) (i:=i);have hs3:=h.ok s (qad hs);have hlt:((P.take i).map DE).length=i:=by rw[qaj,qa0];omega
   have hmid:((P.take i).map DE++P.drop i)[i]?=some s:=by
    rw[qc8 (by omega),hlt,qc1,qcm,qc9,hs]
   have hset:∀x,DE s=x->((P.take i).map DE++P.drop i).set i x=(P.take (i+1)).map DE++P.drop (i+1):=fun x hx=>by
    rw[qfe _ _ (by omega),hlt,qc1,Bp hs,qaz,qa1]
    congr 1
    rw[Ey hs,qe1,qe2,hx];rfl
   have hsame:DE s=s->(P.take i).map DE++P.drop i=(P.take (i+1)).map DE++P.drop (i+1):=fun hx=>by
    rw[Bp hs,qaz,qa1]
    congr 1
    rw[Ey hs,qe2,hx];rfl
   refine Ap (Aa (Aq (AE (Ad (Ae U (Ca EP Ep U U ?_))))));refine Be Pd U (Mp (H.get at0) hmid) (Ac U (Ac U (qA (Ad (Ae U (qA (AE (Ad (B6 U U (An U ?_))))))))));refine qA (Au _ U ?_ ?_)
   .intro h2;replace h2:=AV h2;have he:DE s=0:=by unfold DE;rw[if_pos (by omega)]
    refine Av (Am U (A8 U (Af DY U (Be Gd U (Ar (hpz H.ext) (0+0)) ?_))));refine Ae U (Ca EP Ep U U ?_);refine Bf (.int _ _) Ep U U U H at0 (by(simp;omega)) ?_;rintro w H;refine Ab (AF (AF (Aa (Av (A7 U U ?_)))));refine Ae U (qA ?_);have hs2:=hset _ he;rw[show(((P.take i).map DE++P.drop i).map stv).set (0+((i:Int)).toNat*1) (.int .u8 0)=(((P.take i).map DE++P.drop i).set i 0).map stv by rw[qdy];simp[stv]]at H;rw[hs2]at H;exact⟨i+1,rfl,⟨rfl,trivial⟩,⟨by omega,H⟩,by omega⟩
   .intro h2;replace h2:=AW h2;refine Ad (B6 U U (An U (qA (Au _ U ?_ ?_))))
    .intro h3;replace h3:=AV h3;have he:DE s=1:=by unfold DE;rw[if_neg (by omega),if_pos (by omega)]
     refine Av (Am U (A8 U (Af DY U (Be Gd U (Ar (hpz H.ext) (0+0)) ?_))));refine Ae U (Ca EP Ep U U ?_);refine Bf (.int _ _) Ep U U U H at0 (by(simp;omega)) ?_;rintro w H;refine Ab (AF (AF (Aa (Av (A7 U U ?_)))));refine Ae U (qA ?_);have hs2:=hset _ he;rw[show(((P.take i).map DE++P.drop i).map stv).set (0+((i:Int)).toNat*1) (.int .u8 1)=(((P.take i).map DE++P.drop i).set i 1).map stv by rw[qdy];simp[stv]]at H;rw[hs2]at H;exact⟨i+1,rfl,⟨rfl,trivial⟩,⟨by omega,H⟩,by omega⟩
    .intro h3;replace h3:=AW h3;have he:DE s=s:=by unfold DE;rw[if_neg (by omega),if_neg (by omega)]
     rw[hsame he]at H;refine Ap (AF (AF (Aa (Av (A7 U U ?_)))));refine Ae U (qA ?_);exact⟨i+1,rfl,⟨rfl,trivial⟩,⟨by omega,H⟩,by omega⟩
  .intro h1;replace h1:=AW h1;have hii:i=P.length:=by omega
   subst hii;rw[qbe,qe3,qa3]at H;refine B3 (Ay (Ay (Bb (Aa (Ad (Ac U (qA (Ax (AG (v:=(.int _ _)) U U U ?_)))))))));refine⟨rfl,⟨by rw[hpz H.ext,qaj],H.get at0,h.ne,fun x hx=>?_,by rw[qaj];exact hlen⟩,H.ext⟩;obtain⟨y,hy,rfl⟩:=qah.1 hx;have:=h.ok y hy;unfold DE
   split
   .omega
   .split <;> omega
theorem XE{P:List Nat}{i s:Nat}(h:P[i]?=some s):DF (P.take (i+1))=DF (P.take i)+if s=0 then 1 else 0:=by
 unfold DF;rw[Bp h,List.countP_append]
 by_cases hs:s=0 <;> simp[hs]
theorem Ajf(P:List Nat):DF P<=P.length:=List.countP_le_length
theorem Ad9(h:PgAt w bp ba P)(k:Nat){s:Nat}(hk:P[k]?=some s):Ret prog 122 #[ptr bp,.int .i64 (k:Int)] w fun v w'=>v=.int .u8 (s:Int)/\w=w':=by
 obtain⟨w0,rfl⟩:=qD w;have hlen:=h.len;have hkl:=Zq hk;have hs3:=h.ok s (qad hk);have hh:Oj P (k:Int)=true:=by unfold Oj;simp;omega
 refine A6 (fn:=f122) func122 U [.pointer (some ⟨bp,0,none⟩),.int .i64 (k:Int)] U ?_;refine Ad (Ac U (qA (Aq (Ad (Am U (Ae U (Ai qB (Ab7 h (k:Int)) U ?_)))))));rintro v w ⟨rfl,rfl⟩;rw[hh];refine BX U (qA (Bz U (Ap (Aa (Ad (Am U (A8 U (Af DY U (Be Gd U (Ar h.hd (0+0)) ?_)))))))));refine Ae U (Ca EP Ep U U ?_);refine Be Pd U (Mp h.st hk) (Ac U (qA (Ax (AG (v:=(.int _ _)) U U U ?_))));exact⟨rfl,rfl⟩
end
theorem Al9(n:Nat)(h1:1<=n)(h2:n<=4096)(w:World):Ret prog 78 #[.int .i64 (n:Int)] w fun v w'=>∃bp ba,v=.tuple #[ptr bp,.int .i64 0]/\PgAt w' bp ba (List.replicate n 0)/\Ext [] w w'/\w.heap.size<=bp/\w.heap.size<=ba:=by
 obtain⟨w0,rfl,H⟩:=qE w;refine A6 (fn:=f78) func78 U [.int .i64 (n:Int)] U (Ad (Bx U (Ac U (qA (Aq (Ad (Ae U (Bn U U ?_))))))));rw[qag (show ¬(n:Int)<1 by omega)];refine AA U (Ae U (BZ U U ?_));rw[qag (show ¬(4096:Int)<(n:Int)by omega)];refine AK U (.bool _) U (qA (Bz U (Ap (Aa (Ad (Ae U (QF U EP Ep Aos Apr U U H ?_)))))));rintro b11 w - H;rw[qbo]at H;rw[qbo];refine B2 [.slice (some ⟨b11,0,none⟩) n n] Apm Apq ?_;refine Cn [.slice (some ⟨b11,0,none⟩) n n] (.agg _) U U H ?_;rintro b13 w - H;refine Bx U (Ac U (qA (Ax (Ce (v1:=(.pointer _)) (v2:=(.int _ _)) U U U U ?_))));have hn:=H.nd
 refine⟨b13,b11,rfl,⟨by rw[H.get at0,qba];rfl,by rw[H.get at1];simp[stv,TSt],fun e=>by simp[e]at hn,fun s hs=>by rw[(qeg.1 hs).2];decide,by rw[qba];exact h2⟩,H.ext,(H.own _ (qaf ..)).elim (fun h=>by cases h) id,(H.own _ (qai _ (qaf ..))).elim (fun h=>by cases h) id⟩
end Go.Proofs.YtcpgbcabmcbclaaGreatDoor
