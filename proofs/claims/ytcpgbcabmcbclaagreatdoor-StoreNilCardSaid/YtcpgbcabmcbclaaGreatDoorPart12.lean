/- Part 12 of the proof. The last text: StoreNil: for every input the law answers true, and turns nothing. The tables that its row lists are premises, and tied to the text by its card. -/
import Derived.Test.YtcpgbcabmcbclaaGreatDoorPart11
import Derived.Test.YtcpgbcabmcbclaaGreatDoorCards
import Derived.Test.YtcpgbcabmcbclaaGreatDoorTie
import Derived.WalkKit
import Derived.ProofKit
import Derived.OpenShut
import Derived.Deep.DeepHandedRow
set_option maxHeartbeats 4000000
namespace Go.Proofs.YtcpgbcabmcbclaaGreatDoor
open Go.GV Go.Proofs.Tryz
attribute [local irreducible] Ay W Wq Wt
section
variable {w0 w w':World}{p:Sp}{A:Dev}{R:Rj}{x:Sx}{F:Mut}
theorem Pz(O:Sok w0 w p A R x F)(hl:A.left = -1)(a:Option Addr)(nn c:Nat)(L:List Wr)(X:Wrs w (Ms F p) a nn c L)(hT:x.T<=3000000)(hr:Dm x.kv x.n (DJ A.B.length) L=0)(hfit:B1 R.L+blk (opB L).length<=R.size)(hnn:nn<=1000000000:=by decide)(hne:L≠[]:=by decide):
  Ret prog 13 #[ptr p.bs,.slice a nn c] w fun v w'=>v=.int .i64 0/\∃A' F' x',Sok w0 w' p A' (R.more (opB L)) x' F'/\x'.gen=x.gen/\x'.root=x.root/\x'.n=DD x.kv x.n L/\x'.kv=EG x.kv L/\x'.t=He x.t L/\x'.P=x.P/\x'.T=x.T+L.length/\A'.B.length=A.B.length/\A'.left = -1/\(∀q,(q<2\/2+R.size<=q)->q<A.B.length->x'.V q=x.V q)/\Grown (Ms F p) (Ms F' p) w w':=by
 refine(Pt (C:=fun A1 R1 x1=>A1=A/\R1=R/\x1=x) (Z:=fun _=>False) O a nn c L X hnn hT (fun⟨h1,h2,h3⟩=>by subst h1 h2 h3;exact⟨rfl,rfl,rfl,rfl,hfit⟩) (fun _ _ _=>⟨rfl,rfl,rfl⟩) (fun _ _ _ _ h=>absurd hfit h)).mono fun v w' h=>?_
 rcases h with⟨-,h,-⟩|⟨-,-,hv,A1,R1,x1,A',F',V',⟨h1,h2,h3⟩,O',hln,hle,hV,G⟩|⟨-,-,-,A',F',-,-,h|⟨A1,R1,x1,⟨h1,-⟩,h2,-⟩⟩
 .rcases h with h|h
  .exact absurd hr h
  .exact absurd h hne
 .subst h1 h2 h3;exact⟨hv,A',F',_,O',rfl,rfl,rfl,rfl,rfl,rfl,rfl,hln,hle hl,hV,G⟩
 .cases h
 .rw[h1]at h2;exact absurd hl h2
theorem Wa(O:Sok w0 w p A R x F)(a:Option Addr)(nn c:Nat)(L:List Wr)(X:Wrs w (Ms F p) a nn c L)(hT:x.T<=3000000)(hr:Dm x.kv x.n (DJ A.B.length) L≠0)(hnn:nn<=1000000000:=by decide):
  Ret prog 13 #[ptr p.bs,.slice a nn c] w fun v w'=>v=.int .i64 (Dm x.kv x.n (DJ A.B.length) L)/\Sok w0 w' p A R x F/\Ext [] w w':=by
 refine(Pt (C:=fun _ _ _=>False) (Z:=fun _=>False) O a nn c L X hnn hT (fun h=>h.elim) (fun h=>absurd h hr) (fun _ _ h=>absurd h hr)).mono fun v w' h=>?_
 rcases h with⟨hv,-,O',hx⟩|⟨h,-⟩|⟨h,-⟩
 .exact⟨hv,O',hx⟩
 .exact absurd h hr
 .exact absurd h hr
theorem SE{M:Mut}{b t:Nat}{m1 m2:Wm}(h:w.heap[b]?=some (Bl t (CZ m1++CZ m2)))(hb:¬M b)(h1:m1.Ok w M)(h2:m2.Ok w M):Wrs w M (some ⟨b,0,none⟩) 2 2 [m1.x,m2.x] :=
 ⟨⟨[m1,m2],Rd.of_bl (r:=[]) h (by simp) (fun _ _=>rfl),.inr hb,rfl,fun m hm=>by
  simp only[qaa,qaj,or_false]at hm
  rcases hm with rfl|rfl
  .exact h1
  .exact h2⟩,rfl,qae _⟩
theorem Hu{wb:World}{M:Mut}{a:Option Addr}{l:Byt}(R:Rd w a 1 B8 l)(hn:l=[]\/wb.heap.size<=(adr a).block)(hM:∀y,M y->y<wb.heap.size):Rdx w M a l:=⟨R,hn.imp id fun h h5=>by have:=hM _ h5;omega⟩
end
def wrA:Wr:=⟨[97],[49],false⟩
def wrBb:Wr:=⟨[98],[50],false⟩
def wrG:Wr:=⟨[97],[],true⟩
def wrA3:Wr:=⟨[97],[51],false⟩
def wrC3:Wr:=⟨[99],[51],false⟩
def R09:Rj:=⟨[],360,0,1⟩
def W91:List (List Wr):=[[wrA,wrBb],[wrG,wrC3]]
theorem few91:∀W∈W91,W.length<=1000/\∀y∈W,y.Few:=by
 unfold W91 Wr.Few;simp only[qaa,qaj,or_false,forall_eq_or_imp,forall_eq];decide
theorem kl91:KL (EG (kv1 []) W91.flatten) [([98],[50]),([99],[51])]:=KL.nil.sets (W:=W91.flatten)
theorem Adj{w w':World}{M:Mut}{a:Option Addr}{n c:Nat}{L:List Pr}(h:Prs w M a n c L)(hx:Ext [] w w'):Prs w' M a n c L:=by
 obtain⟨ps,R,hs,hl,hm⟩:=h.ex;exact⟨⟨ps,R.ext0 hx,hs,hl,fun m hm'=>⟨(hm m hm').k.call hx,(hm m hm').v.call hx,(hm m hm').kc,(hm m hm').vc⟩⟩,h.num,h.le⟩
theorem Afp{w:World}{b t:Nat}{m:Im}(h:w.heap[b]?=some (Bl t (K1 m)))(hk:Rd w m.ka 1 B8 m.it.key)(hv:Rd w m.va 1 B8 m.it.val)(h1:m.it.key.length<=m.kc)(h2:m.it.val.length<=m.vc):Prs w (fun _=>False) (some ⟨b,0,none⟩) 1 1 [prI m.it] :=
 ⟨⟨[m],Rd.of_bl (r:=[]) h (by simp) (fun _ _=>rfl),.inr id,rfl,fun y hy=>by rw[qab.1 hy];exact⟨⟨hk,.inr id⟩,⟨hv,.inr id⟩,h1,h2⟩⟩,rfl,qae _⟩
theorem Aih:R09.Ok:=⟨by decide,by decide,by decide,by decide,by decide⟩
set_option maxRecDepth 100000 in
theorem QU(w:World):Ret prog 8 #[] w fun v w'=>v=.bool true/\Ext [] w w':=by
 obtain⟨w0,rfl⟩:=qD w;have g0:SG (80+362) (Dd 442) R09 (fun _=>zeros):=SG.new Aih rfl (by decide) (by decide);have l0:(Dd 442).left = -1:=rfl;obtain⟨e1,e2,e3⟩:=g0.load (g0:=0) (g1:=0) (l0:=[]) (l1:=[]) (Gd _) (Gd _) (fun h=>absurd h (by decide)) (fun _ h=>absurd h (by decide));rw[if_pos ⟨rfl,rfl⟩]at e1;rw[if_neg (by decide)]at e2 e3;rw[if_pos rfl]at e3;have em:Fs (Dd 442)=0:=by decide
 refine Ax (fn:=Tryz.f8) func8 U [] U (Ad (Am U (qA (Ad (Ah qB (WC (by decide) (by decide) _) U ?_)))));rintro v w ⟨bd,F,rfl,O⟩;replace O:Own w0 w bd (Dd 442) F:=O;refine AL U (Ag U U (Ag U U (Bb U (Ac U (qA (Aq (Ad (Ae U (AN U U ?_)))))))));refine A4 U (Ao U (BC I0 U ?_));refine AJ U (.bool _) U (qA (Br U (Ap (Aa (Ad (Ao U (Ah qB (Pu O.dev (by decide) em (by rw[e1];decide) g0.good.few) U ?_)))))));rw[e1];rintro v w ⟨rfl,hx28⟩;replace O:=O.call hx28;refine AL U (Ag U U (Ag U U (Bb U (Ac U (qA (Ad (Ao U (Ah qB (Afi (pq:=0) (qq:=1) O g0 l0 ⟨rfl,rfl,rfl,rfl⟩ (by rw[e2];decide) em (.inl ⟨e1,e3,rfl,rfl⟩)) U ?_))))))));rw[e2];have hs1:=g0.save0 l0 (0+1) (tpB (-1) 0 1) (by decide) (by decide) (by rw[EI];decide)
 generalize DI (Dd 442) (0+1) (tpB (-1) 0 1)=A1 at hs1 |-;clear O;rintro v w ⟨p,F1,rfl,hpb,O,-⟩;have hl1:=hs1.2.1;have hn1:=hs1.2.2.len;subst hpb;refine AL U (Ag U U (Ag U U (Bb U (Ac U (qA (Aq (Ad (Ae U (AN U U ?_)))))))));refine A4 U (Ae U (AN U U (AJ U (.bool _) U (A4 U (Ao U (BC W5 U ?_))))));refine AJ U (.bool _) U (A4 U (Ao U ?_));have lt48:=O.lt;refine Ah qB (Xi [97] [49] _) U ?_;rintro v w48 ⟨hx48,m48,rfl,hm48,Rk48,Rv48,kc48,vc48,nk48,nv48⟩;replace O:=O.call hx48;refine Ah qB (Xi [98] [50] _) U ?_;rintro v w49 ⟨hx49,m49,rfl,hm49,Rk49,Rv49,kc49,vc49,nk49,nv49⟩;have lt49:=O.lt;replace O:=O.call hx49;have lt50:=O.lt;have H:=Ctx.start w49 [];refine BM (CZ m48++CZ m49) FU EA GR H ?_;rintro b50 w hb50 H;have hx50:=H.ext
 have X51:=SE (M:=Ms F1 p) (H.get at0) (fun h=>by have:=lt50 _ h;omega) ⟨Hu (by rw[hm48];exact(Rk48.ext0 hx49).ext0 hx50) (by rw[hm48];exact nk48) lt48,Hu (by rw[hm48];exact(Rv48.ext0 hx49).ext0 hx50) (by rw[hm48];exact nv48) lt48,by rw[hm48];exact kc48,by rw[hm48];exact vc48⟩ ⟨Hu (by rw[hm49];exact Rk49.ext0 hx50) (by rw[hm49];exact nk49) lt49,Hu (by rw[hm49];exact Rv49.ext0 hx50) (by rw[hm49];exact nv49) lt49,by rw[hm49];exact kc49,by rw[hm49];exact vc49⟩;rw[hm48,hm49]at X51;refine Ah qB (Pz (O.call hx50) hl1 (some ⟨b50,0,none⟩) 2 2 [wrA,wrBb] X51 (by decide) (by rw[hn1];decide +kernel) (by decide +kernel)) U ?_;rintro v w51 ⟨rfl,A2,F2,x2,O,hgen2,hroot2,hbn2,hkv2,-,hP2,hT2,hn2,hl2,hV2,-⟩;replace hkv2:x2.kv=[([97],[49]),([98],[50])]:=hkv2;replace hbn2:x2.n=12:=hbn2
 refine AN U U (AJ U (.bool _) U (A4 U (Ao U (Ah qB (YT O) U ?_))));rintro v w ⟨rfl,rfl⟩;rw[hbn2];refine AN U U (AJ U (.bool _) U (qA (Br U (Ap (Aa (Ad (Ao U ?_)))))));have lt60:=O.lt;have H:=Ctx.start w51 [];refine BM [bv 97] AO C0 H3 H ?_;rintro b60 w hb60 H;refine Ek (l:=[97]) AO Gz U H at0 ?_;rintro w61 H Rk61;have hx61:=H.ext;replace O:=O.call hx61;clear H;refine Bw (CZ ⟨some ⟨b60,0,none⟩,1,none,0,wrG⟩) Tt GR ?_;have lt63:=O.lt;refine Ah qB (Xi [97] [51] _) U ?_;rintro v w63 ⟨hx63,m63,rfl,hm63,Rk63,Rv63,kc63,vc63,nk63,nv63⟩;replace O:=O.call hx63;have lt64:=O.lt;have H:=Ctx.start w63 [];refine BM (CZ ⟨some ⟨b60,0,none⟩,1,none,0,wrG⟩++CZ m63) FU EA GR H ?_;rintro b64 w hb64 H;have hx64:=H.ext
 have X65:=SE (M:=Ms F2 p) (H.get at0) (fun h=>by have:=lt64 _ h;omega) ⟨⟨(Rk61.ext0 hx63).ext0 hx64,.inr fun h=>by have:=lt60 _ h;dsimp only[adr]at this;omega⟩,⟨Rd.nil,.inl rfl⟩,qae _,qae _⟩ ⟨Hu (by rw[hm63];exact Rk63.ext0 hx64) (by rw[hm63];exact nk63) lt63,Hu (by rw[hm63];exact Rv63.ext0 hx64) (by rw[hm63];exact nv63) lt63,by rw[hm63];exact kc63,by rw[hm63];exact vc63⟩;rw[hm63]at X65;have hr65:Dm x2.kv x2.n (DJ A2.B.length) [wrG,wrA3]=1:=(by rw[hkv2,hbn2,hn2,hn1];decide +kernel);refine Ah qB (Wa (O.call hx64) (some ⟨b64,0,none⟩) 2 2 [wrG,wrA3] X65 (by rw[hT2];decide) (by rw[hr65];decide)) U ?_;rw[hr65];rintro v w65 ⟨rfl,O,-⟩;refine Ac U (qA (Ad (Ao U ?_)));have lt67:=O.lt;have H:=Ctx.start w65 [];refine BM [bv 97] AO C0 H3 H ?_;rintro b67 w hb67 H
 refine Ek (l:=[97]) AO Gz U H at0 ?_;rintro w68 H Rk68;have hx68:=H.ext;replace O:=O.call hx68;clear H;refine Bw (CZ ⟨some ⟨b67,0,none⟩,1,none,0,wrG⟩) Tt GR ?_;have lt70:=O.lt;refine Ah qB (Xi [99] [51] _) U ?_;rintro v w70 ⟨hx70,m70,rfl,hm70,Rk70,Rv70,kc70,vc70,nk70,nv70⟩;replace O:=O.call hx70;have lt71:=O.lt;have H:=Ctx.start w70 [];refine BM (CZ ⟨some ⟨b67,0,none⟩,1,none,0,wrG⟩++CZ m70) FU EA GR H ?_;rintro b71 w hb71 H;have hx71:=H.ext
 have X72:=SE (M:=Ms F2 p) (H.get at0) (fun h=>by have:=lt71 _ h;omega) ⟨⟨(Rk68.ext0 hx70).ext0 hx71,.inr fun h=>by have:=lt67 _ h;dsimp only[adr]at this;omega⟩,⟨Rd.nil,.inl rfl⟩,qae _,qae _⟩ ⟨Hu (by rw[hm70];exact Rk70.ext0 hx71) (by rw[hm70];exact nk70) lt70,Hu (by rw[hm70];exact Rv70.ext0 hx71) (by rw[hm70];exact nv70) lt70,by rw[hm70];exact kc70,by rw[hm70];exact vc70⟩;rw[hm70]at X72;refine Ah qB (Pz (O.call hx71) hl2 (some ⟨b71,0,none⟩) 2 2 [wrG,wrC3] X72 (by rw[hT2];decide) (by rw[hkv2,hbn2,hn2,hn1];decide +kernel) (by decide +kernel)) U ?_;rintro v w72 ⟨rfl,A3,F3,x3,O,hgen3,hroot3,hbn3,hkv3,-,hP3,hT3,hn3,hl3,hV3,-⟩;replace hkv3:x3.kv=[([98],[50]),([99],[51])]:=(by rw[hkv3,hkv2];rfl);refine Ac U (qA (Ad (Ao U ?_)));have H:=Ctx.start w72 []
 refine BM [bv 97] AO C0 H3 H ?_;rintro b75 w - H;refine Ek (l:=[97]) AO Gz U H at0 ?_;rintro w76 H Rk76;replace O:=O.call H.ext;clear H;refine Ah qB (Xn O (some ⟨b75,0,none⟩) 1 [97] Rk76) U ?_;rw[hkv3,show B7 ([([98],[50]),([99],[51])]:Kvl) [97]=none from rfl];rintro v w77 ⟨a77,c77,rfl,-,O,-⟩;refine AL U (Ag U U (Ag U U (Ag U U (Ai U (Am U (Ac U (qA (Ad (Ao U ?_)))))))));have H:=Ctx.start w77 [];refine BM [bv 99] AO C0 H3 H ?_;rintro b83 w - H;refine Ek (l:=[99]) AO Gz U H at0 ?_;rintro w84 H Rk84;replace O:=O.call H.ext;clear H;refine Ah qB (Xn O (some ⟨b83,0,none⟩) 1 [99] Rk84) U ?_;rw[hkv3,show B7 ([([98],[50]),([99],[51])]:Kvl) [99]=some [51]from rfl];rintro v w85 ⟨a85,c85,rfl,R85,O,-⟩
 refine AL U (Ag U U (Ag U U (Ag U U (Ai U (Am U (Ac U (qA (Aq (Ad ?_)))))))));refine Ae U (AN U U (A4 U (Ae U (AN U U (AJ U (.bool _) U (A4 U (A4 U (AJ U (.bool _) U (A4 U ?_)))))))));refine A4 U (Cc U (AJ U (.bool _) U (A4 U (Aj U (Ie (l:=[51]) AO Gz Fp U R85 ?_)))));refine Zs (l:=[51]) (m:=[51]) U U U (AJ U (.bool _) U (A4 U (Ao U ?_)));have hd9:=VS O;refine Ah qB (WB hd9.1) U ?_;rw[hd9.2.on];rintro v w109 ⟨rfl,D109,-⟩;refine AN U U (AJ U (.bool _) U (A4 U (Ao U (Ah qB (Ah0 D109 none 0 0 [] Rd.nil U (.inl U) (fun _ h=>by cases h) hd9.2.good.few) U ?_))));rintro v w114 ⟨rfl,D114,-⟩;refine AN U U (AJ U (.bool _) U (qA (Br U (Ap (Aa ?_)))))
 have g4:SG (80+362) (onD (Kb A3) []) ((R09.more (opB [wrA,wrBb])).more (opB [wrG,wrC3])) x3.V:=(by have h:=hd9.2.off [];rw[hn3,hn2,hn1]at h;exact h);have v0:x3.V 0=zeros:=by rw[hV3 0 (by decide) (by rw[hn2,hn1];decide),hV2 0 (by decide) (by rw[hn1];decide)];rfl
 have v1:x3.V 1=CU 1 (tpB (-1) 0 1):=by rw[hV3 1 (by decide) (by rw[hn2,hn1];decide),hV2 1 (by decide) (by rw[hn1];decide)];rfl
 obtain⟨f1,f2,f3⟩:=g4.load (g0:=0) (g1:=1) (l0:=[]) (l1:=tpB (-1) 0 1) (by rw[v0];exact Gd _) (by rw[v1];exact Vz (gen:=1) (by rw[EI];decide)) (fun h=>absurd h (by decide)) (fun _ _=>by rw[v1];exact V0 (gen:=1) (by rw[EI];decide));rw[if_neg (by decide)]at f1 f2 f3;rw[if_neg (by decide)]at f3;have l4:=g4.len;have em4:Fs (onD (Kb A3) [])=0:=by unfold Fs;rw[g4.on,l4];decide
 have td4:=told (fr:=362) (A:=onD (Kb A3) []) (P:=List.replicate 80 0) (root := -1) (L:=[]) (S:=[]) (.inl ⟨rfl,rfl,rfl⟩) g4.on (by rw[l4];decide) (by decide) qcv (fun _ h=>by cases h) List.Pairwise.nil;refine Ad (Ao U (Ah qB (Adh (m:=80) (gen:=1) (root := -1) (L0:=[]) (S:=[]) (Ws:=W91) D114 g4 em4 f1 f3 f2 ⟨rfl,by decide,by decide⟩ td4 (fun _ h=>by cases h) qcv List.Pairwise.nil (fun _ h=>by cases h) U few91) U ?_));clear O;rintro v w119 ⟨p4,rfl,hb4,O,hx119⟩;refine AL U (Ag U U (Ag U U (Bb U (Ac U (qA (Aq (Ad (Ae U (AN U U ?_)))))))));refine A4 U (Ao U (BC W5 U ?_));refine AJ U (.bool _) U (qA (Br U (Ap (Aa (Ad (Ao U ?_))))));have H:=Ctx.start w119 [];refine BM [bv 98] AO C0 H3 H ?_;rintro b130 w - H;refine Ek (l:=[98]) AO Gz U H at0 ?_
 rintro w131 H Rk131;replace O:=O.call H.ext;clear H;have H:=Ctx.start w131 [];refine BM [bv 99] AO C0 H3 H ?_;rintro b132 w - H;refine Ek (l:=[99]) AO Gz U H at0 ?_;rintro w133 H Rk133;replace O:=O.call H.ext;replace Rk131:=Rk131.ext0 H.ext;clear H;refine Ah qB (Ac4 O kl91.nd (by rw[kl91.len];decide) (some ⟨b130,0,none⟩) (some ⟨b132,0,none⟩) 1 1 [98] [99] Rk131 Rk133) U ?_;rw[show JF (EG (kv1 []) W91.flatten) [98] [99]=[([98],[50])]from(kl91.scan [98] [99]).trans rfl];rintro v w134 ⟨a134,c134,rfl,P134,O,-⟩;refine AL U (Ag U U (Ag U U (Ai U (Ac U (qA (Ad (Ae U (B6 U U (A4 U ?_)))))))));refine Aj U ?_;have H:=Ctx.start w134 [];refine BM [bv 98] AO C0 H3 H ?_;rintro b141 w - H;refine Ek (l:=[98]) AO Gz U H at0 ?_;rintro w142 H Rk142;replace O:=O.call H.ext
 have hx142:=H.ext;clear H;have H:=Ctx.start w142 [];refine BM [bv 50] AO C0 H3 H ?_;rintro b143 w - H;refine Ek (l:=[50]) AO Gz U H at0 ?_;rintro w144 H Rk144;replace O:=O.call H.ext;have hx144:=H.ext;replace Rk142:=Rk142.ext0 hx144;clear H;have H:=Ctx.start w144 [];refine Bw (K1 ⟨some ⟨b141,0,none⟩,1,some ⟨b143,0,none⟩,1,⟨[98],[50],0⟩⟩) Aag Ki ?_;refine C3 (K1 ⟨some ⟨b141,0,none⟩,1,some ⟨b143,0,none⟩,1,⟨[98],[50],0⟩⟩) (.agg _) EY Gv Ki U U U U H ?_;rintro b146 w - H;refine Ah qB (Adi (Adj P134 ((hx142.trans hx144).trans H.ext)) (Afp (H.get at0) (Rk142.ext0 H.ext) (Rk144.ext0 H.ext) (qae _) (qae _)) (fun q hq=>by rw[qab.1 hq];exact(show([98]:Byt).length<=1000/\([50]:Byt).length<=1000 from by decide))) U ?_
 rintro v w147 ⟨rfl,hx147⟩;refine AR U (.bool _) U (A4 U (Ah qB (HR 441 (by decide) _) U ?_));rintro v w ⟨rfl,rfl⟩;refine B6 U U (AR U (.bool _) U (A4 U (Ah qB (HR 442 (by decide) _) U ?_)));rintro v w ⟨rfl,rfl⟩;refine B6 U U (AR U (.bool _) U (A4 U (Ah qB (HR 3000 (by decide) _) U ?_)));rintro v w ⟨rfl,rfl⟩;refine B6 U U (AR U (.bool _) U (Am U (qA (Aw (AE (v:=(.bool _)) U U U ?_)))));exact⟨rfl,(O.call (H.ext.trans hx147)).jone.own.ext⟩
theorem QV{n:Nat}(h1:2<=n):DT (Dd n)=4:=by
 have h:=TK (g0:=0) (g1:=0) (l0:=[]) (l1:=[]) (B:=List.replicate n zeros) (left := -1) (by simpa using h1) (by rw[show(List.replicate n zeros).getD 0 zeros=zeros by simp[qd2];split <;> rfl];exact Gd _) (by rw[show(List.replicate n zeros).getD 1 zeros=zeros by simp[qd2];split <;> rfl];exact Gd _) (fun h=>absurd h (by decide)) (fun _ h=>absurd h (by decide));rw[<-Aa8]at h;rw[h.1];rfl
set_option maxRecDepth 100000 in
theorem UH(blocks:Nat)(hb:blocks<=65535)(ka la:Option Addr)(kn kc ln lc:Nat)(w:World) :
  Ret prog 5 #[.int .u16 (blocks:Int),.slice ka kn kc,.slice la ln lc] w fun v w'=>v=.bool true/\Ext [] w w':=by
 obtain⟨w0,rfl⟩:=qD w;refine Ax (fn:=Tryz.f5) func5 U [.int .u16 (blocks:Int),.slice ka kn kc,.slice la ln lc] U ?_;refine Ad (Am U (qA (Aq (Ad (B5 (α:=Unit) 34225520640 (fun _=>[(34,.bool (decide (100<kn\/100<ln)))]) (fun _ w'=>w0=w') U ?_ ?_)))))
 .refine Aj U (AP AO U (BP U U (A4 U (AU 30 U ?_ ?_))))
  .intro h1;replace h1:=AV h1;refine Ak U (Ak U (Ak U (AR U (.bool _) U (Ab ?_))));exact⟨rfl,(),rfl,⟨qac Value.bool (by rw[qap];simp_all;try omega),trivial⟩,rfl⟩
  .intro h2;replace h2:=AW h2;refine Aj U (AP FU U (BP U U (AJ U (.bool _) U (Ab ?_))));exact⟨rfl,(),rfl,⟨qac Value.bool (by rw[qap];simp_all;try omega),trivial⟩,rfl⟩
 rintro - j34 w rfl;refine Ar _ U ?_ ?_
 .intro h1;refine Ad (Ah qB (QU _) U ?_);rintro v w ⟨rfl,hx⟩;refine Am U (qA (Aw (An (AE (v:=(.bool _)) U U U ?_))));exact⟨rfl,hx⟩
 .intro h1;obtain⟨n,hn⟩:=qD (1+blocks % 600:Nat);have hn1:1<=n/\n<=600:=by omega
  have hnI:(1:Int)+(blocks:Int) % 600=(n:Int):=by omega
  have hlen:(Dd n).B.length=n:=qbc;have hr:=HR (n:Int) (by omega);have hr2:=Yd (n:Int) (by omega);refine Ap (Aa (Ad (Ae U (DQ U un_22 EO ?_))));refine UR U U U (A8 U U ?_);rw[hnI];refine Ac U (qA (Ad (Ae U (Ah qB (WC (n:=(n:Int)) (by omega) (by omega) _) U ?_))));rw[qbi];rintro v w ⟨bd,F,rfl,O⟩;refine AL U (Ag U U (Ag U U (Bb U (Ac U (qA (Aq (Ad (Ae U (AN U U ?_)))))))));refine A4 U (Ao U (BC I0 U ?_));refine AJ U (.bool _) U (qA (Br U (Ap (Aa (Ad (Bb U (qA (Ad (Ao U (Aj U ?_))))))))));refine Ah qB (Abc _ _ ⟨_,_,_,rfl⟩) U ?_;rintro v w54 ⟨rfl,h54⟩;rw[h54]at O;refine AL U (Ag U U (Ag U U (Ag U U (Ai U (Am U (Ac U (qA (Ad (Ao U ?_)))))))));refine Aj U (Ah qB (YR _ _ _ _ _ _ _) U ?_)
  rintro v w61 ⟨rfl,h61⟩;rw[h61]at O;refine AL U (Ag U U (Ag U U (Ai U (Ac U (qA (Ad (Ah qB (Acz _) U ?_)))))));rintro v w65 ⟨rfl,hx65⟩;replace O:=O.call hx65;refine AL U (Ag U U (Ag U U (Bb U (Ac U (qA (Ad (Ah qB (YS _) U ?_)))))));rintro v w69 ⟨rfl,hx69⟩;replace O:=O.call hx69;refine AL U (Ag U U (Ag U U (Bb U (Ac U (qA (Aq (Ad (A4 U (A4 U ?_)))))))));refine Ae U (AN U U (AJ U (.bool _) U (A4 U (Aj U (AP EY U (AN U U (AJ U (.bool _) U (A4 U (Ae U ?_)))))))));refine AN U U (AJ U (.bool _) U (A4 U (Ae U (AN U U (AJ U (.bool _) U (A4 U (Ae U (AN U U (AJ U (.bool _) U ?_)))))))));refine A4 U (Ao U (Aj U (Ah qB (U8 _ _ _ _) U ?_)));rintro v w97 ⟨rfl,h97⟩;rw[h97]at O;refine AN U U (AJ U (.bool _) U (A4 U (Ao U (Ah qB (VY _) U ?_))));rintro v w102 ⟨rfl,hx102⟩
  replace O:=O.call hx102;refine AN U U (AJ U (.bool _) U (A4 U (Ao U (Ah qB (VJ _) U ?_))));rintro v w107 ⟨rfl,h107⟩;rw[h107]at O;refine AN U U (AJ U (.bool _) U (A4 U (Ae U (Ah qB (hr _) U ?_))));rintro v w112 ⟨rfl,h112⟩;rw[h112]at O;refine Ae U (Ah qB (hr2 _) U ?_);rintro v w114 ⟨rfl,h114⟩;rw[h114]at O;refine AN U U ?_;rw[qai (rfl:DJ (n:Int)=DJ (n:Int))];refine AJ U (.bool _) U (qA (Br U (Ap (Aa (Ad (Ac U (qA (Aq (Ad (Ae U ?_))))))))));refine Ah qB (hr2 _) U ?_;rintro v w118 ⟨rfl,h118⟩;rw[h118]at O;refine B6 U U (qA ?_);obtain⟨w1,rfl⟩:=qD w118;refine Fk 1048576 (α:=Unit) (fun _=>[(20,.int .i64 (if DJ n=0 then 1 else 4))]) (fun _ w'=>w'=w1) U ?_ ?_
  .skip
   refine Ar _ U ?_ ?_
   .intro h2;replace h2:=AV h2;refine A5 (Ac U (qA ?_));exact⟨(),rfl,⟨qac (Value.int .i64) (if_pos h2).symm,trivial⟩,rfl⟩
   .intro h2;replace h2:=AW h2;refine Ap (Aa ?_);exact⟨(),rfl,⟨qac (Value.int .i64) (if_neg h2).symm,trivial⟩,rfl⟩
  .rintro - j119 w hw;rw[hw]
   have hopen:Ret prog 19 #[ptr bd] w1 fun v w'=>v=.tuple #[.pointer none,.int .i64 (if DJ n=0 then 1 else 4)]/\Ext [] w1 w':=by
    by_cases h2:DJ n=0
    .have hm:Fs (Dd n)=1:=by unfold Fs;rw[if_neg (by simp[Dd]),hlen,if_pos h2]
     have:=QO O.dev (by omega) (by rw[hm];decide);rw[hm]at this;rw[if_pos h2];exact this
    .have hm:Fs (Dd n)=0:=by unfold Fs;rw[if_neg (by simp[Dd]),hlen,if_neg h2]
     have hn2:2<=n:=by
      rcases qbl n 2 with h5|h5
      .exfalso;apply h2
       have:n=1:=by omega
       subst this;decide
      .exact h5
     have:=Pu O.dev (by omega) hm (by rw[QV hn2];decide) (Aed n);rw[QV hn2]at this;rw[if_neg h2];exact this
   have e8:Fs (Kb (Dd n))=8:=if_pos (show(Kb (Dd n)).on=false from rfl);refine Ad (Ao U (Ah qB hopen U ?_));rintro v w122 ⟨rfl,hx122⟩;replace O:=O.call hx122;refine AL U (Ag U U (Ag U U (Bb U (Ac U (qA (Aq (Ad (Ae U (Ae U ?_)))))))));refine AN U U ?_;rw[qai (rfl:(if DJ n=0 then(1:Int)else 4)=if DJ n=0 then 1 else 4)];refine A4 U (Ao U (Ah qB (WB O) U ?_));rintro v w130 ⟨rfl,D,-⟩;clear O;refine AN U U (AJ U (.bool _) U (qA (Br U (Ap (Aa (Ad (Ao U (Ah qB (QO D.dev (by show(Dd n).B.length<=_;omega) (by rw[e8];decide)) U ?_))))))));rw[e8];rintro v w135 ⟨rfl,hx135⟩;replace D:=D.call hx135;refine AL U (Ag U U (Ag U U (Bb U (Ac U (qA (Ad (Ao U (Ah qB (Ac0 D.dev (by show(Dd n).B.length<=_;omega) (by rw[e8];decide)) U ?_))))))));rw[e8];rintro v w140 ⟨rfl,hx140⟩;replace D:=D.call hx140
   refine AL U (Ag U U (Ag U U (Bb U (Ac U (qA (Ad (Ae U (B6 U U (A4 U ?_)))))))));refine Ae U (B6 U U (AR U (.bool _) U (A4 U (Ah qB (QU _) U ?_))));rintro v w150 ⟨rfl,hx150⟩;refine AR U (.bool _) U (Am U (qA (Aw (AE (v:=(.bool _)) U U U ?_))));exact⟨rfl,(D.call hx150).ext⟩
open Go.GV Go.Proofs.Tryz Go.ChangeShapes Go.WideShapes Go.ChangeAt Go.RowKit
theorem own:ownKnob Tryz.prog.godebug=none:=by kernel_rfl
theorem Afq:laidOutB prog=true:=by kernel_rfl
def Aii:List Nat:=[128,191,160,191,128,159,144,191,128,143]++List.replicate 22 0
def layO(l:List Nat):Obj->Obj
 | .cells _ t frozen => .cells (l.map fun(n:Nat)=>Value.int .u8 (n:Int)).toArray t frozen
 |o=>o
noncomputable def laidWorld(os:Os):World :=
 { World.holding prog os ⟨#[],#[],[]⟩with heap:=((World.holding prog os ⟨#[],#[],[]⟩).heap.modify 1 (layO Go.Pinned.utf8FirstZ)).modify 2 (layO Aii) }
theorem P1{H:Type}{enc:TypeId × Value->H}{w:World}{base:Nat}{spare:Nat->Bool}{held:Bool}:∀n cs y,DataW.trod enc prog w base spare held n 5 cs=some y->∃b:UInt8,cs=B8 b/\True:=by
 intro n cs y h;obtain⟨d,rfl,h1,h2⟩:=Ad2 underlying5 n cs y h;have h1:(0:Int)<=d:=h1;have h2:d<=255:=h2;refine⟨UInt8.ofNat d.toNat,?_,trivial⟩
 have:(UInt8.ofNat d.toNat).toNat=d.toNat:=by simp[UInt8.toNat_ofNat'];omega
 rw[B8,bv,this,Int.toNat_of_nonneg h1]
theorem MH:Tryz.prog.cellsOf 5=1:=by kernel_rfl
theorem Zb:∃fs,Tryz.prog.underlying 56=some (.struct fs)/\(List.range 3).map (fun i=>fs[i]?.map fun f=>(f.type,f.offset))=[some (24,0),some (24,1),some (4,2)]:=⟨_,underlying56,by kernel_rfl⟩
theorem UI:Tryz.prog.cellsOf 56=3:=by kernel_rfl
theorem P2:Tryz.prog.cellsOf 24=1:=by kernel_rfl
theorem Zc:Tryz.prog.bytesOf 5=1:=by kernel_rfl
theorem Aij{k:Int}{m:Nat}(h1:0<=k)(h2:k<=m):∃n:Nat,k=n/\n<=m:=⟨k.toNat,by omega,by omega⟩
structure Wm.In(w:World)(m:Wm):Prop where
 k:Rd w m.ka 1 B8 m.x.k
 v:Rd w m.va 1 B8 m.x.v
 kc:m.x.k.length<=m.kc
 vc:m.x.v.length<=m.vc
set_option maxRecDepth 100000 in
theorem Afr{H:Type}{enc:TypeId × Value->H}{w:World}{base:Nat}{spare:Nat->Bool}{held:Bool}:∀n cs y,DataW.trod enc prog w base spare held n 56 cs=some y->Light prog 56 y.1->∃d:Wm,cs=CZ d/\d.In w:=by
 intro n cs y h hL;obtain⟨fs,ht,hf⟩:=Zb;have hl:=XK ht h;rw[UI]at hl;simp only[List.range,List.range.loop,qau,qbq,qdv,and_true]at hf;obtain⟨f0,f1,f2⟩:=hf;obtain⟨ca,cc,cl,hc,cR,cle,_,cw,_⟩:=Qc ht h hL 0 0 f0 underlying24 P2 MH (fun n cs y h _=>P1 n cs y h);obtain⟨ga,gc,gl,hg,gR,gle,_,gw,_⟩:=Qc ht h hL 1 1 f1 underlying24 P2 MH (fun n cs y h _=>P1 n cs y h);obtain⟨e,he⟩:=Z6 ht h 2 2 f2 underlying4;refine⟨⟨ca,cc,ga,gc,⟨cl,gl,e⟩⟩,?_,⟨cR,gR,cle,gle⟩⟩
 match cs,hl with
 | [_,_,_],_ =>
  simp at hc hg he;simp[CZ,hc,hg,he]
end Go.Proofs.YtcpgbcabmcbclaaGreatDoor
namespace Go.Proofs.YtcpgbcabmcbclaaGreatDoor.storeNil
open Go.GV Go.Proofs.Tryz Go.ChangeShapes Go.WideShapes Go.ChangeAt Go.RowKit
theorem Adk(os:Os):laidMet prog Rows.storeNilRow.laid ((laidWorld os).forCall (fun _ _=>0) ⟨#[],#[.int .u16 0,.slice none 0 0,.slice none 0 0],[]⟩).memory :=
 laidMet_of_run' 8 (by kernel_rfl) (by kernel_rfl)
theorem reads(os:Os){H:Type}(enc:TypeId × Value->H):∃ds places,DataW.whole enc prog ((laidWorld os).forCall (fun _ _=>0) ⟨#[],#[.int .u16 0,.slice none 0 0,.slice none 0 0],[]⟩).memory Tryz.f5.params.toList Rows.storeNilSpec.vars false (#[.int .u16 0,.slice none 0 0,.slice none 0 0]:Array Value).toList 8=some (ds,[],places) :=
 ⟨[.lit (.int .u16 0),.nil,.nil],[],by kernel_rfl⟩
set_option maxRecDepth 100000 in
theorem Aik(os:Os)(started:os.Started)(H:Type)(enc:TypeId × Value->H)(F:Stop.Interp) :
  ReturnsInHanded {} checked os 5 .any ((OpenSpec.ofChange Rows.storeNilSpec).preRow enc prog Tryz.f5 Rows.storeNilRow.domain false Rows.storeNilRow.laid) (((OpenSpec.ofChange Rows.storeNilSpec).at F).post enc prog Tryz.f5 false true false false):=by
 obtain⟨ds,places,hx⟩:=reads os enc
 refine returnsInHanded_of_row (C:=checked) (s:=OpenSpec.ofChange Rows.storeNilSpec) own started (by kernel_rfl) func5
  (witness_row_at (enc:=enc) (C:=checked) false (laidWorld os) #[.int .u16 0,.slice none 0 0,.slice none 0 0] rfl (by kernel_rfl) (by kernel_rfl) (by kernel_rfl)
   (OpenSpec.preRow_of_cond 8 hx (by kernel_rfl) (fun k hk=>by cases hk) (by kernel_rfl) (Adk os))) ?_
 intro W base args ds gs before hval0 hW _ _ hLt _ _ _;have hval:∀(j:Nat) t v,Tryz.f5.params[j]?=some t->args[j]?=some v->Value.okWide prog W .any base t v:=hval0;have hW':=hW;obtain⟨p,q,hA0,hV,rfl,hfz,hnd⟩:=hW;have hA:DataW.TrodAll enc prog W 0 (fun _=>true) true Tryz.f5.params.toList args.toList ds p:=hA0;rw[params5]at hA hval;obtain⟨v0,vs0,d0,ds0,p0,q0,hargs,rfl,rfl,h0,r0⟩:=trodAll_cons hA;obtain⟨v1,vs1,d1,ds1,p1,q1,rfl,rfl,rfl,h1,r1⟩:=trodAll_cons r0;obtain⟨v2,vs2,d2,ds2,p2,q2,rfl,rfl,rfl,h2,r2⟩:=trodAll_cons r1;obtain⟨rfl,rfl,rfl⟩:=trodAll_nil r2;obtain rfl:args=#[v0,v1,v2]:=by cases args;simp_all
 obtain⟨k0,rfl,rfl,rfl,hg0⟩:=open_int underlying22 (hval 0 _ v0 rfl rfl) h0;obtain⟨n0,rfl,hb0⟩:=Aij (m:=65535) (Mj hg0).1 (Mj hg0).2;have hL1:Light prog 24 d1:=Tl hLt (i:=1) rfl rfl;obtain⟨a1,c1,l1,rfl,R1,hc1,_,hw1,_⟩:=Tm underlying24 MH (fun n cs y h _=>P1 n cs y h) (okWide_slice underlying24 (hval 1 _ v1 rfl rfl)) h1 hL1;rw[Zc]at hw1;unfold reachBytes at hw1;have hL2:Light prog 39 d2:=Tl hLt (i:=2) rfl rfl;obtain⟨a2,c2,l2,rfl,R2,hc2,hm2,hw2,H2⟩:=Tm underlying39 UI Afr (okWide_slice underlying39 (hval 2 _ v2 rfl rfl)) h2 hL2;unfold maxLen at hm2;refine(UH n0 hb0 a1 a2 l1.length c1 l2.length c2 W).calls.mono ?_;rintro e W' ⟨v,rfl,rfl,hx⟩;exact⟨_,rfl,Z4 Afq U U underlying4 (fun ds h=>match ds,h with | [_,_,_],_=>rfl) hW' hx⟩
theorem said:Rows.StoreNilSaid :=
 OpenClaim.holds_of_cond 5 Tryz.f5 rfl rfl rfl rfl rfl rfl rfl ⟨rfl,rfl,rfl,rfl,rfl⟩ rfl rfl rfl rfl rfl (by kernel_rfl) func5 (by kernel_rfl)
  (qc0 (by kernel_rfl)) (by unfold Func.isWrapper;(rw[if_neg (by decide +kernel)];exact⟨rfl,rfl⟩))
  (fun os started H enc _ F=>by rw[OpenClaim.pre_eq_preRow];exact Aik os started H enc F)
theorem plain(f:FuncId)(fn:Func)(hf:Tryz.pinned.checked.prog.funcNamed "gablet/gabletlaw09.StoreNil" = some f)(hfn:Tryz.pinned.checked.prog.funcs[f]?=some fn) :
  false=Tryz.pinned.checked.prog.looks []/\∀(j:Nat) t,fn.params[j]?=some t->Tryz.pinned.checked.prog.wantsStandIn t=false:=by
 obtain rfl:f=5:=qbr ((show Tryz.prog.funcNamed "gablet/gabletlaw09.StoreNil" = some 5 by kernel_rfl).symm.trans hf) |>.symm
 obtain rfl:fn=Tryz.f5:=(qbr (Tryz.func5.symm.trans hfn)).symm;refine⟨by kernel_rfl,fun j t ht=>?_⟩;rw[params5]at ht;have hm:=Array.mem_of_getElem? ht
 exact qby.1 (show(Tryz.f5.params.toList.all fun t => !Tryz.prog.wantsStandIn t)=true by kernel_rfl) t (by rw[params5];simpa using hm) |> fun h=>(qef _).mp h
theorem card:Rows.StoreNilCardSaid :=
 Claim7.holds_tied_plain_at .later [] _ _ _ _ said (fun _ h=>by cases h) (by kernel_rfl) (fun _ h=>by cases h) storeNil_row_tie rfl ⟨rfl,rfl⟩ (by kernel_rfl) rfl plain (by kernel_rfl)
end Go.Proofs.YtcpgbcabmcbclaaGreatDoor.storeNil
namespace Go.Proofs.YtcpgbcabmcbclaaGreatDoor
theorem storeNil_holds:Rows.StoreNilCardSaid:=storeNil.card
#print axioms storeNil_holds
end Go.Proofs.YtcpgbcabmcbclaaGreatDoor
