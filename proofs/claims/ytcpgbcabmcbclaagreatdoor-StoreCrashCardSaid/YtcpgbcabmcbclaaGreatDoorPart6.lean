/- Part 6 of the proof. -/
import Derived.Test.YtcpgbcabmcbclaaGreatDoorPart5
set_option maxRecDepth 20000
set_option maxHeartbeats 8000000
namespace Go.Proofs.YtcpgbcabmcbclaaGreatDoor
open Go.GV Go.Proofs.Tryz
attribute [local irreducible] AB W Wq Wt
theorem Its.past{w w1 w2:World}{a:Option Addr}{n c:Nat}{L:List It}{S:List Nat}(I:Its w (Old w1) a n c L)(he:Ext S w w2)(hS:∀x∈S,x<w1.heap.size):Its w2 (Old w1) a n c L :=
 I.turn ⟨⟨S,hS,he⟩,fun _ h => .inl h⟩
def TT:Nat:=162
def Qq(bd bp fr:Nat):List Value:=[ptr bd,ptr bp,.int .i64 (fr:Int)]
structure Tx(w:World)(bt bd bp ba fr:Nat)(A:Dev)(P:List Nat)(F:Mut)(L:List (Nat × Obj)):Prop where
 tr:w.heap[bt]?=some (Bl TT (Qq bd bp fr))
 pg:PgAt w bp ba P
 dev:DevAt w bd A F
 blk:∀x∈L,w.heap[x.1]?=some x.2
 nd:L.Pairwise fun x y=>x.1≠y.1
 off:∀x∈L,¬F x.1/\x.1≠ba/\x.1≠bt/\x.1≠bp
 nbt:¬F bt/\bt≠ba
 nbp:¬F bp
 nba:¬F ba
 lt:∀x,F x->x<w.heap.size
def TM(F:Mut)(ba bt bp:Nat)(L:List (Nat × Obj)):Mut:=fun x=>F x\/x=ba\/x=bt\/x=bp\/x∈L.map (·.1)
section
variable {w w':World}{bt bd bp ba fr:Nat}{A A':Dev}{P P':List Nat}{F F':Mut}{L L':List (Nat × Obj)}
theorem Tx.mlt(T:Tx w bt bd bp ba fr A P F L):∀x,TM F ba bt bp L x->x<w.heap.size:=fun x h=>by
 rcases h with h|rfl|rfl|rfl|h
 .exact T.lt x h
 .exact Al T.pg.st
 .exact Al T.tr
 .exact Al T.pg.hd
 .obtain⟨y,hy,rfl⟩:=qah.1 h;exact Al (T.blk y hy)
theorem Tx.ids(T:Tx w bt bd bp ba fr A P F L):∀x∈L.map (·.1),¬F x/\x≠ba/\x≠bt/\x≠bp:=fun x h=>by
 obtain⟨y,hy,rfl⟩:=qah.1 h;exact T.off y hy
theorem Tx.own(T:Tx w bt bd bp ba fr A P F L)(H:Ctx w (L.map (·.1)) w' L'):Tx w' bt bd bp ba fr A P F L'/\Grown (TM F ba bt bp L) (TM F ba bt bp L') w w':=by
 have hi:=T.ids;have hs:=H.ext.size
 have hnew:∀x∈L',¬F x.1/\x.1≠ba/\x.1≠bt/\x.1≠bp:=fun x hx=>by
  rcases H.own x hx with h|h
  .exact hi _ h
  .exact⟨fun hf=>by have:=T.lt _ hf;omega,fun e=>by have:=Al T.pg.st;omega,fun e=>by have:=Al T.tr;omega,fun e=>by have:=Al T.pg.hd;omega⟩
 refine⟨⟨?_,T.pg.keep H.ext (fun h=>(hi _ h).2.2.2 rfl) (fun h=>(hi _ h).2.1 rfl),T.dev.keep H.ext fun x h hf=>(hi x h).1 hf,H.blk,H.nd,hnew,T.nbt,T.nbp,T.nba,fun x h=>by have:=T.lt x h;omega⟩,⟨⟨L.map (·.1),fun x h => .inr (.inr (.inr (.inr h))),H.ext⟩,fun x h=>?_⟩⟩
 .rw[H.ext.block bt (Al T.tr) fun h=>(hi _ h).2.2.1 rfl];exact T.tr
 .rcases h with h|h|h|h|h
  .exact .inl (.inl h)
  .exact .inl (.inr (.inl h))
  .exact .inl (.inr (.inr (.inl h)))
  .exact .inl (.inr (.inr (.inr (.inl h))))
  .obtain⟨y,hy,rfl⟩:=qah.1 h;exact(H.own y hy).imp (fun h => .inr (.inr (.inr (.inr h)))) id
theorem Tx.ctx(T:Tx w bt bd bp ba fr A P F L):Ctx w (L.map (·.1)) w L:=Ctx.startL T.blk T.nd
theorem Tx.call(T:Tx w bt bd bp ba fr A P F L)(hx:Ext [] w w'):Tx w' bt bd bp ba fr A P F L:=(T.own (T.ctx.call hx)).1
theorem Grown.call0{F:Mut}(hx:Ext [] w w'):Grown F F w w':=⟨.of0 hx,fun _ h => .inl h⟩
theorem Tx.page(T:Tx w bt bd bp ba fr A P F L)(h:PgAt w' bp ba P')(hx:Ext [ba] w w'):Tx w' bt bd bp ba fr A P' F L/\Grown (TM F ba bt bp L) (TM F ba bt bp L) w w':=by
 have hs:=hx.size;refine⟨⟨?_,h,T.dev.keep hx fun x h hf=>by rw[qaa.1 h]at hf;exact T.nba hf,fun x hm=>?_,T.nd,T.off,T.nbt,T.nbp,T.nba,fun x h=>by have:=T.lt x h;omega⟩,⟨⟨[ba],fun x h => .inr (.inl (qaa.1 h)),hx⟩,fun x h => .inl h⟩⟩
 .rw[hx.block bt (Al T.tr) (by simpa using T.nbt.2)];exact T.tr
 .rw[hx.block x.1 (Al (T.blk x hm)) (by simpa using(T.off x hm).2.1)];exact T.blk x hm
theorem Tx.devs(T:Tx w bt bd bp ba fr A P F L)(h:DevAt w' bd A' F')(t:Turn F w w')(hF:∀x,F' x->F x\/(w.heap.size<=x/\x<w'.heap.size)):Tx w' bt bd bp ba fr A' P F' L/\Grown (TM F ba bt bp L) (TM F' ba bt bp L) w w':=by
 obtain⟨S,hS,hx⟩:=t;have hs:=hx.size;have hno:∀x,x<w.heap.size->¬F x->¬F' x:=fun x h1 h2 h3=>(hF x h3).elim h2 fun h=>by omega
 have hb:=Al T.tr;have hp:=Al T.pg.hd;have ha:=Al T.pg.st;refine⟨⟨?_,T.pg.keep hx (fun h=>T.nbp (hS _ h)) (fun h=>T.nba (hS _ h)),h,fun x hm=>?_,T.nd,fun x hm=>⟨hno _ (Al (T.blk x hm)) (T.off x hm).1,(T.off x hm).2⟩,⟨hno _ hb T.nbt.1,T.nbt.2⟩,hno _ hp T.nbp,hno _ ha T.nba,fun x h=>?_⟩,⟨⟨S,fun x h => .inl (hS x h),hx⟩,fun x h=>?_⟩⟩
 .rw[hx.block bt hb fun h=>T.nbt.1 (hS _ h)];exact T.tr
 .rw[hx.block x.1 (Al (T.blk x hm)) fun h=>(T.off x hm).1 (hS _ h)];exact T.blk x hm
 .rcases hF x h with h|h
  .have:=T.lt x h;omega
  .exact h.2
 .rcases h with h|h
  .exact(hF x h).imp .inl And.left
  .exact .inl (.inr h)
end
def Dr(A:Dev)(fr sz:Nat)(page depth:Int):Int × Option (Bool × List It) :=
 if 16<depth\/page<0\/(sz:Int)<=page then(9,none)
 else if GK A ((fr:Int)+page)=0 then(match Eu (GL A ((fr:Int)+page))with|none=>(9,none)|some n=>(0,some n))
 else(GK A ((fr:Int)+page),none)
theorem Aea{A:Dev}(h:Wf A)(k:Int):(GL A k).length<=512:=by
 unfold GL
 by_cases h0:GK A k=0
 .rw[qal h0,cond_true];unfold GK at h0
  cases ho:A.on with
  |false=>rw[ho]at h0;cases h0
  |true =>
   cases hh:A.has k with
   |false=>rw[ho,hh]at h0;cases h0
   |true =>
    have hl:k.toNat<A.B.length:=by simp only[Dev.has,qao,qap]at hh;omega
    have hm:=NW (d:=(zeros,([]:List Byt))) (h:=hl);unfold stands
    cases hg:(A.B.getD k.toNat (zeros,[])).2.getLast? with
    |none=>rw[Option.getD_none,h.sure _ hm];exact qae _
    |some b=>rw[qdr,h.loose _ hm b (List.mem_of_getLast? hg)];exact qae _
 .rw[qag h0];exact qak _
section
variable {w:World}{bt bd bp ba fr:Nat}{A:Dev}{P:List Nat}{F:Mut}{L:List (Nat × Obj)}
theorem SS(T:Tx w bt bd bp ba fr A P F L)(hfr:fr<=5000)(page depth:Int)(hp : -9223372036854775808<=page/\page<=9223372036854775807){mx:Nat}(hfew:Few A mx)(hmx:mx<=1000000000) :
  Ret prog 181 #[ptr bt,.int .i64 page,.int .i64 depth] w fun v w'=>∃(inner:Bool) (a:Option Addr) (n c:Nat),v=.tuple #[.agg #[.bool inner,.slice a n c],.int .i64 (Dr A fr P.length page depth).1]/\Ext [] w w'/\∀i M,(Dr A fr P.length page depth).2=some (i,M)->inner=i/\Its w' (Old w) a n c M/\∀x∈M,x.key.length<=505/\x.val.length<=505/\x.page<4294967296:=by
 obtain⟨w0,rfl,H⟩:=qE w;have hlen:=T.pg.len;obtain⟨rd,hrd⟩:=qD (Dr A fr P.length page depth);rw[<-hrd];unfold Dr at hrd;refine A6 (fn:=f181) func181 U [.pointer (some ⟨bt,0,none⟩),.int .i64 page,.int .i64 depth] U ?_;refine Ad (Bj Cl H ?_);rintro b6 w - H;refine Ac U (qA (Aq (Ad (BE (α:=Unit) 134213632 (fun _=>[(26,.bool (decide (16<depth) || (decide (page<0) || decide ((P.length:Int)<=page))))]) (fun _ w'=>Ctx w0 [] w' [(b6,Bl 183 [.bool false,.slice none 0 0])]) U ?_ ?_))))
 .refine Ae U (BZ U U (AA U (AR 14 U ?_ ?_)))
  .intro h1;replace h1:=AV h1;refine Ag U (Ag U (AN U (.bool _) U (AA U (Ag U (Ag U (Ag U (Ag U (Ag U (Ag U ?_)))))))));refine Ag U (AN U (.bool _) U (Ab ?_));exact⟨rfl,(),rfl,⟨qab Value.bool (by rw[qar];simp;omega),trivial⟩,H⟩
  .intro h2;replace h2:=AW h2;refine Ae U (Bn U U (AK U (.bool _) U (AA U (AR 18 U ?_ ?_))))
   .intro h3;replace h3:=AV h3;refine Ag U (Ag U (Ag U (Ag U (Ag U (Ag U (Ag U (AN U (.bool _) U (Ab ?_))))))));exact⟨rfl,(),rfl,⟨qab Value.bool (by rw[qar];simp;omega),trivial⟩,H⟩
   .intro h4;replace h4:=AW h4;refine Ae U (Am U (A8 U (Af Ld U (Be K3 U (Ar (T.call H.ext).tr (0+1)) ?_))));refine Ai qB (Oi (T.call H.ext).pg) U ?_;rintro v w ⟨rfl,rfl⟩;refine IE U U (AK U (.bool _) U (Ab ?_));exact⟨rfl,(),rfl,⟨qab Value.bool (by rw[qar];simp;omega),trivial⟩,H⟩
 rintro - j26 w H;refine Au _ U ?_ ?_
 .intro h1;rw[if_pos (by simpa using h1)]at hrd;refine Ad (B2 [.bool false,.slice none 0 0] Ha Cl ?_);refine Bo Bh U U U (by simp[Bi]) H at0 U ?_;rintro w H;refine Ac U (qA (Ax (Ao (Dx U U U BQ Bh H at0 U (show _=(.int _ _)from rfl) ?_))));exact⟨false,none,0,0,by rw[hrd],H.ext,fun i M h=>by rw[hrd]at h;cases h⟩
 .intro h1;have hn1:¬(16<depth\/page<0\/(P.length:Int)<=page):=(by intro h5;have h6:(decide (16<depth) || (decide (page<0) || decide ((P.length:Int)<=page)))=true:=(by simpa using h5);rw[h1]at h6;cases h6);rw[if_neg hn1]at hrd;have hb6:=H.get at0;have hx6:=H.ext;obtain⟨wb,rfl⟩:=qD w;have Tb:=T.call hx6;refine Ap (Aa (BR [([0,1,2,3,4,5,6,7,8,9],10),([11,12,13,14],15)] (fun z=>Ext [] wb z) [] mixed (Ext.drew [] wb) ?_));refine AC U U (Cs U (Bg U (AD Xn U (BG Dn U (fun _ hx=>Ar (Tb.call hx).tr (0+0)) ?_))));refine Cs U (Bg U (AD Xo U (BG DW U (fun _ hx=>Ar (Tb.call hx).tr (0+2)) ?_)));refine B9 U (Fk U U ?_);refine AU ?_
  skip
  refine Ai qB (SE ((fr:Int)+page) hfew (Tb.call (Ext.drew [] wb)).dev) U ?_;rintro v w2 ⟨s39,rfl,F39⟩;obtain⟨a39,c39,rfl,R39,hc39⟩:=Fresh.rdB F39;refine Ab (Bc ((Ext.drew [] wb).trans F39.ext) (AC U U ?_));refine Ij U (CA U U (CA U U (Iv U U (AU (Ac U (Ab (Bc ((Ext.drew [] wb).trans F39.ext) (B1 (Aq ?_)))))))));have hx39:=(Ext.drew [] wb).trans F39.ext;replace H:=(show Ctx w0 [] wb [(b6,Bl 183 [.bool false,.slice none 0 0])]from H).call hx39;refine Ad (Ae U (Ba U U (qA (Au _ U ?_ ?_))))
  .intro h2;replace h2:=Bu h2;rw[if_neg h2]at hrd;refine Ad (B2 [.bool false,.slice none 0 0] Ha Cl ?_);refine Ae U (Bo Bh U U U (by simp[Bi]) H at0 U ?_);rintro w H;refine Ac U (qA (Ax (Ao (Dx U U U BQ Bh H at0 U (show _=(.int _ _)from rfl) ?_))));exact⟨false,none,0,0,by rw[hrd],H.ext,fun i M h=>by rw[hrd]at h;cases h⟩
  .intro h2;replace h2:=Bv h2;rw[if_pos h2]at hrd;have hrl:=Aea T.dev.wf ((fr:Int)+page);refine Ap (Aa (Ad (Aj U (Ai qB (Ajc a39 c39 _ (GL A ((fr:Int)+page)) _ R39 U hc39) U ?_))));have hb6l:=H.lt (k:=0) rfl;have hxw:=H.ext;rintro v w5 ⟨inner,aa,nn,cc,rfl,hx48,hits⟩;have Hold:=H.call hx48;replace H:=Ctx.startL (fun x hx=>Hold.blk x hx) Hold.nd;have hge:=(Hold.own _ (qaf ..)).elim (fun h=>by cases h) id;refine AQ U (Ah U U (Ah U U (Bj Cl H ?_)));rintro b10 w - H;refine Bo Bh U U U (by simp[Bi]) H at0 U ?_;rintro w H;refine An U (qA (Aq (Ad (AA U (BX U (qA (Au _ U ?_ ?_)))))))
   .intro h3;replace h3:=Cz h3;have hn:Eu (GL A ((fr:Int)+page))=none:=by cases h:Eu (GL A ((fr:Int)+page)) <;> simp_all
    rw[hn]at hrd;refine Ad (B2 [.bool false,.slice none 0 0] Ha Cl ?_);refine Bo Bh U U U (by simp[Bi]) H at1 U ?_;rintro w H;refine Ac U (qA (Ax (Ao (Dx U U U BQ Bh H at1 U (show _=(.int _ _)from rfl) ?_))));exact⟨false,none,0,0,by rw[hrd],Hold.ext.then H.ext (fun x hx => .inr (by rw[qaa.1 hx];exact hge)),fun i M h=>by rw[hrd]at h;cases h⟩
   .intro h3;replace h3:=C0 h3;obtain⟨nd,hn⟩:∃nd,Eu (GL A ((fr:Int)+page))=some nd:=by cases h:Eu (GL A ((fr:Int)+page)) <;> simp_all
    rw[hn]at hrd;refine Ap (Aa (Ad (BN BQ Bh U H at0 U (Bo Bh U U U (by simp[Bi]) H at1 U ?_))));rintro w H;refine Ac U (qA (Ax (Dx U U U BQ Bh H at1 U (show _=(.int _ _)from rfl) ?_)));refine⟨inner,aa,nn,cc,by rw[hrd],Hold.ext.then H.ext (fun x hx => .inr (by rw[qaa.1 hx];exact hge)),fun i M h=>?_⟩;rw[hrd]at h
    injection h with h
    subst h;obtain⟨h5,h6,h7⟩:=hits i M hn;refine⟨h5,(h6.past H.ext fun x hx=>by rw[qaa.1 hx];exact hb6l).weak (Old.mono hxw),fun x hx=>?_⟩;have h8:=h7 x hx;have h9:=Pt (GL A ((fr:Int)+page));unfold OkL at h8;omega
end
theorem Aeb{b:Byt}{i:Bool}{l:List It}(h:Eu b=some (i,l)):l≠[]:=by
 unfold Eu at h
 split at h
 .unfold XA at h
  split at h
  .split at h
   .rename_i h5
    injection h with h;injection h with h6 h7
    rw[<-h7];exact h5.2
   .cases h
  .cases h
 .cases h
theorem SU{i:Bool}{b:Byt}:∀{n at':Nat} {r:List It × Nat},Ft i b n at'=some r->r.1.length=n
 |0,at',r,h=>by cases h;rfl
 |n+1,at',r,h=>by
  cases h1:Nh i b at' with
  |none=>rw[Qo h1]at h;cases h
  |some x =>
   obtain⟨x,m⟩:=x;rw[Qp h1]at h
   cases h2:Ft i b n m with
   |none=>rw[h2]at h;cases h
   |some r2 =>
    rw[h2]at h;cases h;show r2.1.length+1=n+1;rw[SU h2]
theorem ZS{b:Byt}{i:Bool}{l:List It}(h:Eu b=some (i,l)):l.length<=65535:=by
 unfold Eu at h
 split at h
 .unfold XA at h
  split at h
  .rename_i r hr
   split at h
   .injection h with h;injection h with h6 h7
    have h8:=SU hr;have h9:=Kr ((CR b).take 2);have h10:256 ^ ((CR b).take 2).length<=256 ^ 2:=qc2 (by omega) (by rw[qa0];omega);rw[<-h7,h8];omega
   .cases h
  .cases h
 .cases h
theorem FJ{A:Dev}{fr sz:Nat}{page depth:Int}{i:Bool}{l:List It}(h:(Dr A fr sz page depth).2=some (i,l)):(Dr A fr sz page depth).1=0/\l≠[]/\depth<=16/\0<=page/\page<(sz:Int)/\l.length<=65535:=by
 unfold Dr at h |-
 split at h
 .cases h
 .rename_i h1
  rw[if_neg h1]
  split at h
  .rename_i h2
   rw[if_pos h2]
   split at h
   .cases h
   .rename_i n hn
    injection h with h
    subst h;exact⟨rfl,Aeb hn,by omega,by omega,by omega,ZS hn⟩
  .cases h
theorem IW{A:Dev}{fr sz:Nat}{page depth:Int}(h:(Dr A fr sz page depth).2=none):(Dr A fr sz page depth).1≠0:=by
 unfold Dr at h |-
 split
 .decide
 .rename_i h1
  rw[if_neg h1]at h
  split
  .rename_i h2
   rw[if_pos h2]at h
   split
   .decide
   .rename_i n hn
    rw[hn]at h;cases h
  .rename_i h2;exact h2
theorem Pv{l:List It}(h:l≠[])(key:Byt):Cf l key<l.length:=by
 unfold Cf
 have h1:=qff (l:=l.tail) (fun x:It=>decide (DX x.key key<=0)) |>.length_le
 have h2:=qbv.2 h;rw[qe0]at h1;omega
theorem ZT(L:List It)(key:Byt):∀(n i j:Nat),j - i<=n->i<=j->i<=bsN L key i j/\bsN L key i j<=j
 |0,i,j,h,hij=>by rw[Oa];omega
 |n+1,i,j,h,hij=>by
  by_cases hlt:i<j
  .rw[ZP hlt]
   split
   .have:=ZT L key n ((i+j) / 2+1) j (by omega) (by omega);omega
   .have:=ZT L key n i ((i+j) / 2) (by omega) (by omega);omega
  .rw[Oa];omega
theorem Pw(L:List It)(key:Byt):CJ L key<=L.length:=(ZT L key _ 0 L.length (qae _) (qak _)).2
theorem Nl{L:List It}{key:Byt}(h:Fv L key=true):∃x,L[CJ L key]?=some x/\x.key=key:=by
 unfold Fv at h
 cases hx:L[CJ L key]? with
 |none=>rw[hx]at h;cases h
 |some x=>rw[hx]at h;exact⟨x,rfl,NS (qb5 h)⟩
def Ib(sz root:Int):Int:=if root < -1\/sz<=root then 1 else 0
def Dh(k v:Nat):Bool:=decide (1<=k) && (decide (k<=32) && decide (v<=128))
def XF(A:Dev)(fr sz:Nat)(key:Byt):Nat->Int->Int->Int × Option Byt
 |0,_,_=>(9,none)
 |n+1,page,depth =>
  if page = -1 then(0,none)else match(Dr A fr sz page depth).2 with
  |none=>((Dr A fr sz page depth).1,none)
  |some (true,l)=>XF A fr sz key n (((l[Cf l key]?.map (·.page)).getD 0:Nat):Int) (depth+1)
  |some (false,l)=>if Fv l key=true then(0,some ((l[CJ l key]?.map (·.val)).getD []))else(0,none)
def Ol(A:Dev)(fr sz:Nat)(root:Int)(key:Byt):Int × Option Byt :=
 if Ib sz root≠0 then(1,none)else if Dh key.length 0=true then XF A fr sz key 18 root 0 else(1,none)
theorem Px(a b:Option Addr)(n m c d:Nat)(w:World):Ret prog 126 #[.slice a n c,.slice b m d] w fun v w'=>v=.bool (Dh n m)/\w=w':=by
 obtain⟨w0,rfl⟩:=qD w;refine A6 (fn:=f126) func126 U [.slice a n c,.slice b m d] U (Ad (An U (qA (Ad (Aj U (AP AX U (IE U U (AA U (AR 8 U ?_ ?_)))))))))
 .intro h1;replace h1:=AV h1;refine Aj U (AP AX U (MX U U (AN U (.bool _) U (AA U (AR 13 U ?_ ?_)))))
  .intro h2;replace h2:=AV h2;refine Aj U (AP AX U (MX U U (AN U (.bool _) U (An U (qA (Ax (AG (v:=(.bool _)) U U U ?_)))))));exact⟨qab Value.bool (by unfold Dh;rw[qar];simp;omega),rfl⟩
  .intro h3;replace h3:=AW h3;refine Ag U (Ag U (Ag U (AK U (.bool _) U (An U (qA (Ax (AG (v:=(.bool _)) U U U ?_)))))));exact⟨qab Value.bool (by unfold Dh;rw[qar];simp;omega),rfl⟩
 .intro h4;replace h4:=AW h4;refine Ag U (Ag U (Ag U (AK U (.bool _) U (AA U (Ag U (Ag U (Ag U (AK U (.bool _) U (An U ?_)))))))));refine qA (Ax (AG (v:=(.bool _)) U U U ?_));exact⟨qab Value.bool (by unfold Dh;rw[qar];simp;omega),rfl⟩
section
variable {w:World}{bt bd bp ba fr:Nat}{A:Dev}{P:List Nat}{F:Mut}{L:List (Nat × Obj)}
theorem QK(T:Tx w bt bd bp ba fr A P F L)(root:Int):Ret prog 123 #[ptr bt,.int .i64 root] w fun v w'=>v=.int .i64 (Ib P.length root)/\w=w':=by
 obtain⟨w0,rfl⟩:=qD w;refine A6 (fn:=f123) func123 U [.pointer (some ⟨bt,0,none⟩),.int .i64 root] U ?_;refine Ad (Ac U (qA (Aq (AE (Ad (Am U (BW Aoe U ?_)))))));refine An U (qA (Bz U (Ad (BE (α:=Unit) 1048320 (fun _=>[(8,.bool (decide (root < -1) || decide ((P.length:Int)<=root)))]) (fun _ w'=>w0=w') U ?_ ?_))))
 .refine Ae U (Bn U U (AA U (AR 11 U ?_ ?_)))
  .intro h1;replace h1:=AV h1;refine Ag U (Ag U (Ag U (Ag U (Ag U (Ag U (Ag U (AN U (.bool _) U (An U (Ab ?_)))))))));exact⟨rfl,(),rfl,⟨qab Value.bool (by rw[qar];simp;omega),trivial⟩,rfl⟩
  .intro h2;replace h2:=AW h2;refine Ae U (Am U (A8 U (Af Ld U (Be K3 U (Ar T.tr (0+1)) ?_))));refine Ai qB (Oi T.pg) U ?_;rintro v w ⟨rfl,rfl⟩;refine IE U U (AK U (.bool _) U (An U (Ab ?_)));exact⟨rfl,(),rfl,⟨qab Value.bool (by rw[qar];simp;omega),trivial⟩,rfl⟩
 rintro - j8 w rfl;refine Au _ U ?_ ?_
 .intro h1;refine Ad (Ac U (qA (Ax (AL (Ao (AG (v:=(.int _ _)) U U U ?_))))));exact⟨by rw[Ib,if_pos (by simpa using h1)],rfl⟩
 .intro h1;have hn1:¬(root < -1\/(P.length:Int)<=root):=(by intro h5;have h6:(decide (root < -1) || decide ((P.length:Int)<=root))=true:=(by simpa using h5);rw[h1]at h6;cases h6);refine Ap (AF (Aa (Ad (Ac U (qA (Ax (AG (v:=(.int _ _)) U U U ?_)))))));exact⟨by rw[Ib,if_neg hn1],rfl⟩
theorem Wk{A:Dev}{fr sz:Nat}{key:Byt}{n:Nat}{page depth:Int}:XF A fr sz key (n+1) page depth=if page = -1 then(0,none)else match(Dr A fr sz page depth).2 with
  |none=>((Dr A fr sz page depth).1,none)
  |some (true,l)=>XF A fr sz key n (((l[Cf l key]?.map (·.page)).getD 0:Nat):Int) (depth+1)
  |some (false,l)=>if Fv l key=true then(0,some ((l[CJ l key]?.map (·.val)).getD []))else(0,none):=by rw[XF]
theorem Ab8(T:Tx w bt bd bp ba fr A P F L)(hfr:fr<=5000)(root:Int)(hr : -9223372036854775808<=root/\root<=9223372036854775807)(ka:Option Addr)(kc kn:Nat)(key:Byt)(Rk:Rd w ka 1 B8 key)(hk:key.length=kn){mx:Nat}(hfew:Few A mx)(hmx:mx<=1000000000:=by omega):
  Ret prog 148 #[ptr bt,.int .i64 root,.slice ka kn kc] w fun v w'=>∃va vc u,v=.tuple #[.slice va (List.length u) vc,.bool (Ol A fr P.length root key).2.isSome,.int .i64 (Ol A fr P.length root key).1]/\Ext [] w w'/\Rdx w' (Old w) va u/\u.length<=vc/\u=(Ol A fr P.length root key).2.getD []:=by
 subst hk;obtain⟨w0,rfl⟩:=qD w;obtain⟨rg,hrg⟩:=qD (Ol A fr P.length root key);rw[<-hrg];unfold Ol at hrg;refine A6 (fn:=f148) func148 U [.pointer (some ⟨bt,0,none⟩),.int .i64 root,.slice ka key.length kc] U ?_;refine Ad (Ak U (An U (Ac U (qA (Aq (Ad (Am U (Ae U (Ai qB (QK T root) U ?_)))))))));rintro v w ⟨rfl,rfl⟩;refine Ac U (qA (Ad (Ae U (Ba U U (qA (Au _ U ?_ ?_))))))
 .intro h1;replace h1:=Bu h1;rw[if_pos h1]at hrg;have he:Ib P.length root=1:=by unfold Ib at h1 |-;split <;> simp_all
  refine Ad (Ae U (Ak U (An U (Ac U (qA (Ax (Ao (CX (v1:=(.slice _ _ _)) (v2:=(.bool _)) (v3:=(.int _ _)) U U U U U ?_))))))));exact⟨none,0,[],by rw[hrg,he];rfl,.refl _ _,Rdx.nil,qae _,by rw[hrg];rfl⟩
 .intro h1;replace h1:=Bv h1;rw[if_neg (by simpa using h1)]at hrg;refine Ap (Aa (Aq (Ad (Aj U (Ai qB (Px ka none _ 0 kc 0 _) U ?_)))));rintro v w ⟨rfl,rfl⟩;refine BX U (qA (Au _ U ?_ ?_))
  .intro h2;replace h2:=Cz h2;rw[if_neg (by simpa using h2)]at hrg;refine Ad (Ak U (An U (Ac U (qA (Ax (Ao (CX (v1:=(.slice _ _ _)) (v2:=(.bool _)) (v3:=(.int _ _)) U U U U U ?_)))))));exact⟨none,0,[],by rw[hrg];rfl,.refl _ _,Rdx.nil,qae _,by rw[hrg];rfl⟩
  .intro h2;replace h2:=C0 h2;rw[if_pos (by simpa using h2)]at hrg;refine Ap (Aa (Aq (Ad (Ae U (Ac U (Ac U (qA (AE (B7 73786976294771162560 (α:=Int × Nat) (fun s=>[(10,.int .i64 s.1),(11,.int .i64 (s.2:Int))]) (fun s w'=>Ext [] w0 w'/\s.2<=17/\(-9223372036854775808<=s.1/\s.1<=9223372036854775807)/\XF A fr P.length key (18 - s.2) s.1 (s.2:Int)=rg) (fun s=>18 - s.2) (root,0) U ?_ ?_ ?_)))))))))
   .exact⟨rfl,rfl,trivial⟩
   .exact⟨.refl _ _,qak _,hr,hrg.symm⟩
   .rintro⟨page,d⟩ j w ⟨hx,hd,hpg,hg⟩;dsimp only at hx hd hpg hg;dsimp only;rw[show 18 - d=(17 - d)+1 by omega,Wk]at hg;refine Aq (Ad (Ae U (Ba U U (qA (Au _ U ?_ ?_)))))
    .intro h3;replace h3:=Bu h3;rw[if_neg (by simpa using h3)]at hg;have Tw:=T.call hx;refine Ap (Aa (Aq (AE (Ad (Am U (Ae U (Ae U (Ai qB (SS Tw hfr page (d:Int) hpg hfew hmx) U ?_))))))));rintro v w2 ⟨inner,aa,nn,cc,rfl,hx34,hits⟩;have H:=Ctx.start w2 [];refine AQ U (Ah U U (Ah U U (Bj Cl H ?_)));rintro b12 w - H;refine Bo Bh U U U (by simp[Bi]) H at0 U ?_;rintro w H;refine Ac U (qA (Aq (Ad (Ae U (Ba U U (qA (Au _ U ?_ ?_)))))))
     .intro h4;replace h4:=Bu h4
      have hnone:(Dr A fr P.length page (d:Int)).2=none:=by
       cases h5:(Dr A fr P.length page (d:Int)).2 with
       |none=>rfl
       |some r=>obtain⟨i,l⟩:=r;exact absurd (FJ h5).1 (by simpa using h4)
      rw[hnone]at hg;dsimp only at hg;refine Ad (Ae U (Ak U (An U (Ac U (qA (Ax (Ao (AL (Ao (Ao (AL (Ao (CX (v1:=(.slice _ _ _)) (v2:=(.bool _)) (v3:=(.int _ _)) U U U U U ?_)))))))))))));exact⟨none,0,[],by rw[<-hg];rfl,hx.trans (hx34.trans H.ext),Rdx.nil,qae _,by rw[<-hg];rfl⟩
     .intro h4;replace h4:=Bv h4
      obtain⟨⟨i,l⟩,hsome⟩:∃r,(Dr A fr P.length page (d:Int)).2=some r:=by
       cases h5:(Dr A fr P.length page (d:Int)).2 with
       |none=>exact absurd (by simpa using h4) (IW h5)
       |some r=>exact⟨r,rfl⟩
      obtain⟨-,hne,hd16,-,-,hll⟩:=FJ hsome;obtain⟨rfl,I,hb⟩:=hits i l hsome;rw[hsome]at hg;have hxw:=hx.trans hx34;have hnum:=I.num;refine Ap (Aa (Aq (Ad (Af DD U (AH Gf U H at0 U (qA (Au _ U ?_ ?_)))))))
      .intro h5;subst h5;dsimp only at hg;have hb12:=H.get at0;have hx12:=H.ext;obtain⟨wr,rfl⟩:=qD w;have hkeep:∀{z:World},Ext [] wr z->z.heap[b12]?=some (Bl 183 [.bool true,.slice aa nn cc]):=fun{z} h=>by rw[h.block b12 (Al hb12) (by simp)];exact hb12
       have Ir:=I.call hx12;obtain⟨ms,R,-,hl,hok⟩:=Ir.ex;have hml:ms.length=nn:=by rw[hnum,<-hl,qaj]
       have hbl:=Pv hne key;obtain⟨x,hx1⟩:=AO (l:=ms) (i:=Cf l key);have hxL:=Im.at hl hx1;have hxb:=hb x.it (qad hxL);rw[hxL]at hg;simp only[qbc,qdr]at hg;have hRR:∀{z:World},Ext [] wr z->Rd z aa 3 Im.enc ms:=fun{z} h=>R.ext0 h;have hx0r:Ext [] w0 wr:=hxw.trans hx12;refine BR [([0,1,2,3,4],5),([6,7,8],9)] (fun z=>Ext [] wr z) [] mixed (Ext.drew [] wr) (AC U U ?_);refine AD Br U (BG BT U (fun _ hx=>Ar (hkeep hx) (0+1)) ?_);refine AD Br U (BG BT U (fun _ hx=>Ar (hkeep hx) (0+1)) ?_);refine BF U (AU ?_)
       skip
       refine Ai qB (XB (Ir.call (Ext.drew [] wr)) ka kc _ key (Rk.ext0 (hx0r.trans (Ext.drew [] wr))) U) U ?_;rintro v w5 ⟨rfl,rfl⟩;refine Ab (Bc ((Ext.drew [] wr)) (AC U U ?_));refine Cr R Bw Bm U U (AD Gg U (BG DW U (fun _ hx=>(hRR hx).fld hx1 rfl (j:=2) rfl) ?_));refine AU (Ac U (Ab (Bc ((Ext.drew [] wr)) (B1 (B3 (Ay (Bb (Aa (Av (Ae U (A7 U U ?_)))))))))));refine Ac U (qA ?_);exact⟨(((x.it.page:Nat):Int),d+1),rfl,⟨rfl,rfl,trivial⟩,⟨hx0r.trans (Ext.drew [] wr),by dsimp only;omega,by dsimp only;omega,by dsimp only;rw[show 18 - (d+1)=17 - d by omega];exact hg⟩,by dsimp only;omega⟩
      .intro h5;subst h5;dsimp only at hg;have hx12:=H.ext;have Ir:=I.call hx12;obtain⟨ms,R,-,hl,hok⟩:=Ir.ex;have hml:ms.length=nn:=by rw[hnum,<-hl,qaj]
       refine Ap (Aa (Ad (Af Br U (AH BT U H at0 U (Aj U (Ai qB (SM Ir ka kc _ key (Rk.ext0 (hxw.trans hx12)) U) U ?_))))));rintro v w5 ⟨rfl,hx55⟩;replace H:=H.call hx55;refine AQ U (Ah U U (Ah U U (Ac U (An U (qA (Aq (Ad (AA U (BX U ?_)))))))));refine qA (Au _ U ?_ ?_)
       .intro h6;replace h6:=Cz h6;rw[if_neg (by simpa using h6)]at hg;refine Ad (Ak U (An U (Ac U (qA (Ax (Ao (AL (Ao (Ao (AL (Ao (CX (v1:=(.slice _ _ _)) (v2:=(.bool _)) (v3:=(.int _ _)) U U U U U ?_))))))))))));exact⟨none,0,[],by rw[<-hg];rfl,hxw.trans H.ext,Rdx.nil,qae _,by rw[<-hg];rfl⟩
       .intro h6;replace h6:=C0 h6;have h6':Fv l key=true:=by simpa using h6
        rw[if_pos h6']at hg;obtain⟨y,hy,-⟩:=Nl h6';have hpl:=(qaq.1 hy).1;obtain⟨x,hx1⟩:=AO (l:=ms) (i:=CJ l key);have hxL:=Im.at hl hx1;rw[hxL]at hg;simp only[qbc,qdr]at hg;have hxo:=(hok x (qad hx1)).call hx55;refine Ap (Aa (Ad (Af Br U (AH BT U H at0 U (Ae U (AY R Bw Bm U U ?_))))));refine Af Le U (Be B4 U ((R.ext0 hx55).fld hx1 U (j:=1) U) ?_);refine Ak U (An U (Ac U (qA (Ax (AL (Ao (Ao (AL (Ao (CX (v1:=(.slice _ _ _)) (v2:=(.bool _)) (v3:=(.int _ _)) U U U U U ?_))))))))));refine⟨x.va,x.vc,x.it.val,by rw[<-hg];rfl,hxw.trans H.ext,hxo.v.weak (Old.mono hx),hxo.vc,by rw[<-hg];rfl⟩
    .intro h3;replace h3:=Bv h3;have h3':page = -1:=by simpa using h3
     rw[if_pos h3']at hg;refine B3 (Ay (Ay (Bb (Aa (Ad (Ak U (An U (Ac U (qA (Ax (CX (v1:=(.slice _ _ _)) (v2:=(.bool _)) (v3:=(.int _ _)) U U U U U ?_)))))))))));exact⟨none,0,[],by rw[<-hg];rfl,hx,Rdx.nil,qae _,by rw[<-hg];rfl⟩
end
def KA(inner:Bool)(half:Nat):List It->Nat->Nat
 | [],_=>0
 |x::l,sum=>if sum<half then KA inner half l (sum+CK inner x)+1 else 0
def Gj(inner:Bool)(L:List It):Nat:=KA inner (Bd inner L / 2) L 0
def DN(inner:Bool)(L:List It):List (List It):=if Bd inner L<=503 then[L]else[L.take (Gj inner L),L.drop (Gj inner L)]
abbrev SN:=Option Addr × List It × Nat
def Lm(inner:Bool)(x:SN):List Value:=[.bool inner,.slice x.1 x.2.1.length x.2.2]
structure Nds(w:World)(M:Mut)(inner:Bool)(a:Option Addr)(n c:Nat)(Ls:List (List It)):Prop where
 ex:∃ms:List SN,Rd w a 2 (Lm inner) ms/\(ms=[]\/¬M (adr a).block)/\ms.map (fun x=>x.2.1)=Ls/\∀m∈ms,Its w M m.1 m.2.1.length m.2.2 m.2.1
 num:n=Ls.length
theorem Nds.turn{w w':World}{M M':Mut}{inner:Bool}{a:Option Addr}{n c:Nat}{Ls:List (List It)}(h:Nds w M inner a n c Ls)(t:Grown M M' w w'):Nds w' M' inner a n c Ls:=by
 obtain⟨ms,R,hs,hl,hm⟩:=h.ex;refine⟨⟨ms,?_,?_,hl,fun m hx=>(hm m hx).turn t⟩,h.num⟩
 .rcases hs with rfl|hs
  .exact Rd.nil
  .obtain⟨⟨S,hS,hx⟩,_⟩:=t;exact R.ext hx fun h=>hs (hS _ h)
 .rcases hs with rfl|hs
  .exact .inl U
  .rcases Pq R (fun x _=>rfl)with h0|h0
   .exact .inl h0
   .exact .inr fun h5=>(t.2 _ h5).elim hs fun h6=>by omega
theorem MP(inner:Bool)(L:List It)(k:Nat):Bd inner (L.take k)<=Bd inner L:=by
 have h:=BA inner (L.take k) (L.drop k);rw[qbj]at h;omega
theorem Aec{w:World}{M:Mut}(hM:∀x,M x->x<w.heap.size)(inner:Bool){a:Option Addr}{n c:Nat}{L:List It}(I:Its w M a n c L)(hsz:∀x∈L,x.key.length<=65535/\x.val.length<=65535)(hm:n<=1000000:=by omega):
  Ret prog 210 #[.agg #[.bool inner,.slice a n c]] w fun v w'=>∃a' n' c',v=.slice a' n' c'/\Nds w' M inner a' n' c' (DN inner L)/\Ext [] w w':=by
 obtain⟨w0,rfl,H⟩:=qE w;obtain⟨ms,R,-,hl,hok⟩:=I.ex;have hnum:=I.num;have hcap:=I.le;have hml:ms.length=n:=by rw[hnum,<-hl,qaj]
 have htl:=Ll (inner:=inner) hsz;refine A6 (fn:=f210) func210 U [.agg #[.bool inner,.slice a n c]] U (Ad (Cn [.bool inner,.slice a n c] (.agg _) U U H ?_));rintro b1 w - H;refine Ak U (qA (Aq (Ad (BN BQ Bh U H at0 U (Ai qB (SR inner (I.call H.ext) hm hsz) U ?_)))));rintro v w ⟨rfl,hx7⟩;replace H:=H.call hx7;refine MX U U (qA (Au _ U ?_ ?_))
 .intro h1;replace h1:=AV h1;have hh:DN inner L=[L]:=by rw[DN,if_pos (by omega)]
  have hxb:=H.ext;refine Ad (BN BQ Bh U H at0 U (BJ _ (.agg _) EQ Bh Cl U U U U H ?_));rintro b10 w - H;refine Ak U (qA (Ax (Ao (AG (v:=(.slice _ _ _)) U U U ?_))));refine⟨some ⟨b10,0,none⟩,1,1,rfl,⟨⟨[(a,L,c)],Rd.of_bl (r:=[]) (H.get at0) ?_ (fun _ _=>rfl),.inr fun hq=>?_,by rw[hh];rfl,fun m hm=>?_⟩,by rw[hh];rfl⟩,H.ext⟩
  .rw[qb8,qa3,Lm,<-hnum]
  .have:=hM _ hq;have h5:=(H.own _ (qaf ..)).elim (fun h=>by cases h) id;dsimp only[adr]at this h5;omega
  .rw[qaa.1 hm];have:=I.call H.ext;rw[hnum]at this;exact this
 .intro h1;replace h1:=AW h1;have hh:DN inner L=[L.take (Gj inner L),L.drop (Gj inner L)]:=by rw[DN,if_neg (by omega)]
  refine Ap (Aa (Ad (BN BQ Bh U H at0 U (Ai qB (SR inner (I.call H.ext) hm hsz) U ?_))));rintro v w ⟨rfl,hx12⟩;replace H:=H.call hx12;refine Ri U U U (show _<=(9223372036854775807:Int)by omega) ?_;rw[show(Bd inner L:Int) / 2=((Bd inner L / 2:Nat):Int)by omega];refine Ac U (Ac U (Ac U (qA (Aq (AE ?_)))));obtain⟨wb,rfl⟩:=qD w;have hb1:=H.get at0;have hxb:=H.ext;have hnode:∀{z:World},Ext [] wb z->z.heap[b1]?=some (Bl 183 [.bool inner,.slice a n c]):=fun{z} h=>by rw[h.block b1 (Al hb1) (by simp)];exact hb1
  have hRR:∀{z:World},Ext [] wb z->Rd z a 3 Im.enc ms:=fun{z} h=>R.ext0 (hxb.trans h);refine B7 268419120 (α:=Nat) (fun k=>[(4,.int .i64 (Bd inner (L.take k):Int)),(5,.int .i64 (k:Int))]) (fun k w'=>k<=n/\Ext [] wb w'/\KA inner (Bd inner L / 2) (L.drop k) (Bd inner (L.take k))+k=Gj inner L) (fun k=>n - k) 0 U ?_ ?_ ?_
  .exact⟨rfl,rfl,trivial⟩
  .exact⟨qak _,.refl _ _,rfl⟩
  .rintro k j w ⟨hk,hxl,hg⟩;have htk:=MP inner L k;refine Aq (Ad (Ae U (Ae U (Bn U U (qA (Au _ U ?_ ?_))))))
   .intro h2;replace h2:=AV h2
    have hkn:k<n:=by
     rcases qbr k n with h3|h3
     .exact h3
     .rw[qa6 (by omega)]at h2;omega
    obtain⟨x,hx1⟩:=AO (l:=ms) (i:=k);have hxL:=Im.at hl hx1;have hxo:=hok x (qad hx1);have hxs:=hsz x.it (qad hxL);have hts:=SQ (inner:=inner) hxL;have htk2:=MP inner L (k+1);rw[Ey hxL,KA,if_pos (by omega),<-hts]at hg;have hD:=Ext.drew [] w;have hoD:=hxo.call ((hxb.trans hxl).trans hD);refine Ap (Aa (AE (BR [([0,1,2,3,4,5,6],7),([8],9)] (fun z=>Ext [] w z) [] mixed (hD) ?_)));refine AC U U ?_;refine B9 U (Qa _ BQ Bh U U (fun _ hx=>(fun j v hv=>by rw[Ar (hnode (hxl.trans hx)),qa2];exact hv)) ?_);refine AD Br U (BG BT U (fun _ hx=>Ar (hnode (hxl.trans hx)) (0+1)) ?_);refine B9 U (Cr R Bw Bm U U ?_);refine Qa _ Ds Bm U U (fun _ hx=>(hRR (hxl.trans hx)).row hx1 rfl) (AU ?_)
    skip
    refine Ai qB (SO inner a n c hoD) U ?_;rintro v w5 ⟨rfl,hx24⟩;have hx5:=hD.trans hx24;refine Ab (Bc (hx5) (AC U U ?_));refine Fk U U (AU (Ac U (Ab (Bc (hx5) (B1 (Av (Ae U (A7 U U ?_))))))));refine Ac U (Ab (AF (Aa ?_)));exact⟨k+1,rfl,⟨by show Value.int .i64 _=Value.int .i64 _;congr 1;rw[hts];omega,rfl,trivial⟩,⟨by omega,hxl.trans hx5,by rw[<-hg];omega⟩,by omega⟩
   .intro h2;replace h2:=AW h2
    have hK:Gj inner L=k:=by
     have h0:KA inner (Bd inner L / 2) (L.drop k) (Bd inner (L.take k))=0:=by
      cases hd:L.drop k with
      |nil=>rfl
      |cons x l=>rw[KA,if_neg (by omega)]
     omega
    have hD:=Ext.drew [] w;have H:=(Ctx.start w []).drew;refine B3 (Ay (Ay (Bb (Aa (BR [([0,1,2,3,4,5,6,7,8,9,10,11,12,13],14),([],15)] (fun z=>Ext [] w z) [] mixed (hD) ?_)))));refine AC U U ?_;refine AD DD U (BG Gf U (fun _ hx=>Ar (hnode (hxl.trans hx)) (0+0)) ?_);refine AD Br U (BG BT U (fun _ hx=>Ar (hnode (hxl.trans hx)) (0+1)) ?_);refine B9 U (Hr U Bw Bm U U ?_);refine ED [.bool inner,.slice a k c] Ha Cl ?_;refine AD DD U (BG Gf U (fun _ hx=>Ar (hnode (hxl.trans hx)) (0+0)) ?_);refine AD Br U (BG BT U (fun _ hx=>Ar (hnode (hxl.trans hx)) (0+1)) ?_);refine B9 U (Gp Bw Bm U U ?_);refine ED [.bool inner,.slice (EL a c k 3) (n - k) (c - k)] Ha Cl (AU ?_)
    skip
    refine Cb [.bool inner,.slice a k c,.bool inner,.slice (EL a c k 3) (n - k) (c - k)] EQ Bh Cl H ?_;rintro b42 w5 - H;refine Ab (Bc (H.ext) (AC U U ?_));refine AU (Ak U (Ab (Bc (H.ext) (B1 (Ax (AG (v:=(.slice _ _ _)) U U U ?_))))));have hx5:=(hxb.trans hxl).trans H.ext;have I5:=I.call hx5;have hlt:(L.take k).length=k:=by rw[qa0];omega
    have hld:(L.drop k).length=n - k:=by rw[qbg];omega
    refine⟨some ⟨b42,0,none⟩,2,2,rfl,⟨⟨[(a,L.take k,c),(EL a c k 3,L.drop k,c - k)],Rd.of_bl (r:=[]) (H.get at0) ?_ (fun _ _=>rfl),.inr fun hq=>?_,by rw[hh,hK];rfl,fun m hm=>?_⟩,by rw[hh];rfl⟩,hx5⟩
    .simp[Lm,hlt,hld]
    .have:=hM _ hq;have h5:=(H.own _ (qaf ..)).elim (fun h=>by cases h) id;have h6:=(hxb.trans hxl).size;dsimp only[adr]at this h5;omega
    .rcases qac.1 hm with rfl|hm
     .have:=I5.take (k:=k) hk;rw[<-hlt]at this
      simpa[hlt]using this
     .rw[qaa.1 hm];have:=I5.drop (k:=k) hk;rw[<-hld]at this
      simpa[hld]using this
theorem Grown.trans{F F' F'':Mut}{w w' w'':World}(h1:Grown F F' w w')(h2:Grown F' F'' w' w''):Grown F F'' w w'':=by
 obtain⟨⟨S1,hS1,hx1⟩,g1⟩:=h1;obtain⟨⟨S2,hS2,hx2⟩,g2⟩:=h2;have hs:=hx1.size;refine⟨⟨S1++S2.filter (fun x=>decide (x<w.heap.size)),fun x hx=>?_,(hx1.mono fun x h=>qa5 _ h).then hx2 fun x h=>?_⟩,fun x h=>?_⟩
 .rcases qau.1 hx with h|h
  .exact hS1 x h
  .have h5:=qbk.1 h;have h6:x<w.heap.size:=by simpa using h5.2
   exact(g1 x (hS2 x h5.1)).elim id fun h7=>by omega
 .by_cases h6:x<w.heap.size
  .exact .inl (qax _ (qbk.2 ⟨h,qal h6⟩))
  .exact .inr (by omega)
 .rcases g2 x h with h|h
  .exact g1 x h
  .exact .inr (by omega)
structure Fo(w:World)(M:Mut)(Y:List (Nat × Obj)):Prop where
 blk:∀y∈Y,w.heap[y.1]?=some y.2
 nd:Y.Pairwise fun x y=>x.1≠y.1
 off:∀y∈Y,¬M y.1
def MY(M:Mut)(Y:List (Nat × Obj)):Mut:=fun x=>M x\/x∈Y.map (·.1)
section
variable {w w':World}{M M':Mut}{Y Y':List (Nat × Obj)}
theorem Fo.nil:Fo w M []:=⟨(fun y h=>by cases h),List.Pairwise.nil,(fun y h=>by cases h)⟩
theorem Fo.call(h:Fo w M Y)(t:Grown M M' w w'):Fo w' M' Y/\Grown (MY M Y) (MY M' Y) w w':=by
 obtain⟨⟨S,hS,hx⟩,g⟩:=t;refine⟨⟨fun y hy=>?_,h.nd,fun y hy h5=>?_⟩,⟨⟨S,fun x hx => .inl (hS x hx),hx⟩,fun x h5=>?_⟩⟩
 .rw[hx.block y.1 (Al (h.blk y hy)) fun h5=>h.off y hy (hS _ h5)];exact h.blk y hy
 .rcases g _ h5 with h6|h6
  .exact h.off y hy h6
  .have:=Al (h.blk y hy);omega
 .rcases h5 with h5|h5
  .exact(g x h5).imp .inl id
  .exact .inl (.inr h5)
theorem Fo.ctx(h:Fo w M Y):Ctx w (Y.map (·.1)) w Y:=Ctx.startL h.blk h.nd
theorem Fo.own(h:Fo w M Y)(hlt:∀x,M x->x<w.heap.size)(H:Ctx w (Y.map (·.1)) w' Y'):Fo w' M Y'/\Grown (MY M Y) (MY M Y') w w':=by
 refine⟨⟨H.blk,H.nd,fun y hy h5=>?_⟩,⟨⟨Y.map (·.1),fun x hx => .inr hx,H.ext⟩,fun x h5=>?_⟩⟩
 .rcases H.own y hy with h6|h6
  .obtain⟨z,hz,he⟩:=qah.1 h6;exact h.off z hz (by rw[he];exact h5)
  .have:=hlt _ h5;omega
 .rcases h5 with h5|h5
  .exact .inl (.inl h5)
  .obtain⟨y,hy,rfl⟩:=qah.1 h5;exact(H.own y hy).imp .inr id
theorem Fo.weak(h:Fo w M Y)(hM:∀x,M' x->M x):Fo w M' Y:=⟨h.blk,h.nd,fun y hy h5=>h.off y hy (hM _ h5)⟩
def MZ(M Z:Mut):Mut:=fun x=>M x\/Z x
theorem Grown.or(t:Grown M M' w w')(Z:Mut):Grown (MZ M Z) (MZ M' Z) w w':=by
 obtain⟨⟨S,hS,hx⟩,g⟩:=t;exact⟨⟨S,fun x h => .inl (hS x h),hx⟩,fun x h=>h.elim (fun h=>(g x h).imp .inl id) fun h => .inl (.inr h)⟩
end
def pv(k:Nat):Value := .int .i64 (k:Int)
def TC:Nat:=188
structure Ch where
 A:Dev
 P:List Nat
 tk:List Nat
 gn:List Nat
abbrev CL(bt bc:Nat)(ta:Option Addr)(tn tc:Nat)(tf:List Value)(ga:Option Addr)(gn gc:Nat)(gf:List Value):List (Nat × Obj) :=
 (bc,Bl TC [ptr bt,.slice ta tn tc,.slice ga gn gc])::(ent ta 3 tf++ent ga 3 gf)
structure Cx(w:World)(bt bd bp ba fr bc:Nat)(c:Ch)(F:Mut)(L:List (Nat × Obj)):Prop where
 T:Tx w bt bd bp ba fr c.A c.P F L
 ex:∃ta tc tf ga gc gf,L=CL bt bc ta c.tk.length tc tf ga c.gn.length gc gf/\OS ta c.tk.length tc 1 tf (c.tk.map pv)/\OS ga c.gn.length gc 1 gf (c.gn.map pv)
def Ic(P:List Nat):Int:=if CW P=P.length then 7 else 0
def Ci(P:List Nat):Nat:=if CW P=P.length then 0 else CW P
def IX(P:List Nat):List Nat:=if CW P=P.length then P else P.set (CW P) 2
theorem XG(P:List Nat):Ci P<=P.length:=by
 have:=(qff (l:=P) (fun s=>decide (s≠0))).length_le;unfold Ci CW;split <;> omega
theorem Aed{w:World}{bp ba:Nat}{P:List Nat}(h:PgAt w bp ba P):Ret prog 157 #[ptr bp] w fun v w'=>v=.tuple #[.int .i64 (Ci P:Int),.int .i64 (Ic P)]/\PgAt w' bp ba (IX P)/\Ext [ba] w w' :=
 (Ajd h).mono fun v w' hh=>by
  rcases hh with⟨h1,hv,hp,hx⟩|⟨h1,hv,rfl⟩
  .have hn:¬CW P=P.length:=by omega
   rw[Ci,Ic,IX,if_neg hn,if_neg hn,if_neg hn];exact⟨hv,hp,hx⟩
  .rw[Ci,Ic,IX,if_pos h1,if_pos h1,if_pos h1];exact⟨hv,h,.refl _ _⟩
theorem Aee{k:UInt8}{l:Byt}{w w':World}{v:Value}(h:Lh k l w v w'):∃a m c,v=.tuple #[.slice a (List.length m) c,.int .i64 (GD k l)]/\Ext [] w w'/\Rdx w' (Old w) a m/\m.length<=c/\(GD k l=0->m=DT k l):=by
 rcases h with⟨h0,rfl,hx⟩|⟨h0,s,rfl,B⟩
 .exact⟨none,[],0,rfl,hx,Rdx.nil,qae _,fun h=>absurd h h0⟩
 .obtain⟨a,c,rfl,R,hc,hn⟩:=B.ex;exact⟨a,_,c,by rw[h0],B.ext,Rdx.fresh R (.inr hn),hc,fun _=>rfl⟩
theorem Rd.turnM{w w':World}{M M':Mut}{α:Type}{a:Option Addr}{s:Nat}{enc:α->List Value}{l:List α}(R:Rd w a s enc l)(hs:l=[]\/¬M (adr a).block)(h0:0<s)(he:∀x∈l,(enc x).length=s)(t:Grown M M' w w'):Rd w' a s enc l/\(l=[]\/¬M' (adr a).block):=by
 rcases hs with rfl|hs
 .exact⟨Rd.nil,.inl rfl⟩
 .obtain⟨⟨S,hS,hx⟩,g⟩:=t;refine⟨R.ext hx fun h=>hs (hS _ h),?_⟩
  rcases Pq R (hs:=h0) he with h|h
  .exact .inl h
  .exact .inr fun h5=>(g _ h5).elim hs fun h6=>by omega
def Jv(inner:Bool)(L:List It):Byt:=DT (HR inner L) (HQ inner L)
def SV(inner:Bool)(L:List It):Int:=GD (HR inner L) (HQ inner L)
def Gu(L:List It):Byt:=(L[0]?.map (·.key)).getD []
def wrC(fr:Nat)(c:Ch)(inner:Bool)(L:List It):Int × Ch :=
 if Ic c.P≠0 then(Ic c.P,c)
 else if SV inner L≠0 then(SV inner L,{ c with P:=IX c.P,tk:=c.tk++[Ci c.P] })
 else(Dt c.A (((fr+Ci c.P:Nat)):Int) (Jv inner L),⟨CE c.A (((fr+Ci c.P:Nat)):Int) (Jv inner L),IX c.P,c.tk++[Ci c.P],c.gn⟩)
theorem Py{w:World}{bt bd bp ba fr bc:Nat}{c:Ch}{F:Mut}{L:List (Nat × Obj)}(X:Cx w bt bd bp ba fr bc c F L)(hfr:fr<=5000)(inner:Bool){a:Option Addr}{n cc:Nat}{M:List It}(Z:Mut)(I:Its w (MZ (TM F ba bt bp L) Z) a n cc M)(hne:M≠[])(hsz:∀x∈M,x.key.length<=65535/\x.val.length<=65535)(hpg:∀x∈M,x.page<9223372036854775808){mx:Nat}(hfew:Few c.A mx)(htk:c.tk.length<=100000:=by omega)(hm:n<=1000:=by omega)(hmx:mx<=1000000000:=by omega):
  Ret prog 131 #[ptr bc,.agg #[.bool inner,.slice a n cc]] w fun v w'=>∃(m:Im) (F':Mut) (L':List (Nat × Obj)),v=.tuple #[.agg m.enc.toArray,.int .i64 (wrC fr c inner M).1]/\Cx w' bt bd bp ba fr bc (wrC fr c inner M).2 F' L'/\Grown (TM F ba bt bp L) (TM F' ba bt bp L') w w'/\m.Ok w' (MZ (TM F' ba bt bp L') Z)/\m.it.page<=4096/\((wrC fr c inner M).1=0->m.it=⟨Gu M,[],Ci c.P⟩):=by
 obtain⟨w0,rfl⟩:=qD w;obtain⟨T,ta,tc,tf,ga,gc,gf,rfl,Ot,Og⟩:=X;obtain⟨wr,hwr⟩:=qD (wrC fr c inner M);rw[<-hwr];unfold wrC at hwr;have hkl:=XG c.P;have hpl:=T.pg.len;have H:=T.ctx;refine A6 (fn:=f131) func131 U [.pointer (some ⟨bc,0,none⟩),.agg #[.bool inner,.slice a n cc]] U ?_;refine Ad (Cn [.bool inner,.slice a n cc] (.agg _) U U H ?_);rintro b3 w - H;refine Bj C3 H ?_;rintro b4 w - H;refine Ac U (qA (Ad (Am U (A8 U (Af JL U (AH JK U H at2 U (A8 U (Af Ld U (Be K3 U (Ar (T.own H).1.tr (0+1)) ?_)))))))));obtain⟨T1,G1⟩:=T.own H;refine Ai qB (Aed T1.pg) U ?_;rintro v w2 ⟨rfl,hp2,hx2⟩;obtain⟨T2,G2⟩:=T1.page hp2 hx2;have G12:=G1.trans G2;replace H:=T2.ctx;refine AQ U (Ah U U (Ah U U (Ac U (Ac U (qA (Aq (Ad (Ae U (Ba U U ?_)))))))));refine qA (Au _ U ?_ ?_)
 .intro h1;replace h1:=Bu h1;rw[if_pos h1]at hwr;have hPP:IX c.P=c.P:=by unfold IX Ic at *;split <;> simp_all
  refine Ad (B2 [.slice none 0 0,.slice none 0 0,.int .i64 0] Nc C3 ?_);refine Ae U (Bo Bm U U U (by simp[Bi]) H at0 U ?_);rintro w H;refine Ac U (qA (Ax (Ao (Dx U U U Ds Bm H at0 U (show _=(.int _ _)from rfl) ?_))));obtain⟨T3,G3⟩:=T2.own H.tail.tail;rw[hPP]at T3;exact⟨⟨none,0,none,0,⟨[],[],0⟩⟩,F,_,by rw[hwr];rfl,by rw[hwr];exact⟨T3,ta,tc,tf,ga,gc,gf,rfl,Ot,Og⟩,G12.trans G3,⟨Rdx.nil,Rdx.nil,qae _,qae _⟩,qak _,fun h=>absurd (by rw[hwr]at h;exact h) h1⟩
 .intro h1;replace h1:=Bv h1;rw[if_neg (by simpa using h1)]at hwr;have hl1:(c.tk++[Ci c.P]).length=c.tk.length+1:=by simp
  refine Ap (Aa (Ad (Am U (Am U (A8 U (Af Sj U (AH IJ U H at2 U (Ae U (BJ _ (.int _ _) FB Hv ZF U U U U H ?_)))))))));rintro b30 w - H;replace H:=H.perm ((((List.perm_append_comm.cons _).cons _).cons _).cons _);refine BO (L:=_::_::_::ent ga 3 gf) FB FB Hv by_3 ZF U U U H Ot U (by simp[Bi]) ?_;rintro a31 c31 f31 w H O31;refine A8 U (Af Sj U (Bf (.slice _ _ _) Sq U U U H at2 (by(simp;done)) ?_));rintro w H;refine qA (Ad (BN BQ Bh U H at1 U ?_));obtain⟨T3,G3⟩:=T2.own H;have G13:=G12.trans G3;have hFlt:=T3.lt;have I3:=(I.weak fun _ h=>Or.inl h).turn G13;refine Ai qB (Ai7 inner I3 hm hsz hpg) U ?_;rintro v w4 SP;obtain⟨sa,sm,sc,rfl,hx36,Xm,hmc,hmm⟩:=Aee SP;have T4:=T3.call hx36;have G14:=G13.trans (.call0 hx36);replace H:=T4.ctx
  refine AQ U (Ah U U (Ah U U (Ak U (Ac U (qA (Aq (Ad (Ae U (Ba U U ?_)))))))));refine qA (Au _ U ?_ ?_)
  .intro h2;replace h2:=Bu h2;have h2':SV inner M≠0:=h2;rw[if_pos h2']at hwr
   have hO:OS a31 (c.tk++[Ci c.P]).length c31 1 f31 ((c.tk++[Ci c.P]).map pv):=by
    rw[hl1,qaz];exact O31
   refine Ad (B2 [.slice none 0 0,.slice none 0 0,.int .i64 0] Nc C3 ?_);refine Ae U (Bo Bm U U U (by simp[Bi]) H at0 U ?_);rintro w H;refine Ac U (qA (Ax (Ao (Dx U U U Ds Bm H at0 U (show _=(.int _ _)from rfl) ?_))));obtain⟨T5,G5⟩:=T4.own (H.tail.tail.perm (List.perm_append_comm.cons _));refine⟨⟨none,0,none,0,⟨[],[],0⟩⟩,F,_,by rw[hwr];rfl,?_,G14.trans G5,⟨Rdx.nil,Rdx.nil,qae _,qae _⟩,qak _,fun h=>absurd (by rw[hwr]at h;exact h) h2'⟩;rw[hwr];exact⟨T5,a31,c31,f31,ga,gc,gf,by rw[hl1];rfl,hO,Og⟩
  .intro h2;replace h2:=Bv h2;have h2':¬SV inner M≠0:=fun h=>h h2;rw[if_neg h2']at hwr;have hmm':sm=Jv inner M:=hmm h2
   have hO:OS a31 (c.tk++[Ci c.P]).length c31 1 f31 ((c.tk++[Ci c.P]).map pv):=by
    rw[hl1,qaz];exact O31
   obtain⟨ms,R,hs,hl,hok⟩:=I.ex;have hs:ms=[]\/¬TM F ba bt bp _ (adr a).block:=hs.imp id fun h h5=>h (Or.inl h5);have hml:ms.length=n:=by rw[I.num,<-hl,qaj]
   have hMp:0<M.length:=qbv.2 hne;have hnum:=I.num;obtain⟨x,hx0⟩:=AO (l:=ms) (i:=0);have hxL:=Im.at hl hx0;have hk0:Gu M=x.it.key:=by unfold Gu;rw[hxL];rfl
   obtain⟨R4,hs4⟩:=Rd.turnM R hs (by decide) (fun _ _=>rfl) G14;have R4d:=R4.ext0 (Ext.drew [] w4);have G1d:=G14.trans (.call0 (Ext.drew [] w4));have T4d:=T4.call (Ext.drew [] w4);have hbc:w4.heap[bc]?=some (Bl TC [ptr bt,.slice a31 (c.tk.length+1) c31,.slice ga c.gn.length gc]):=H.get at2;have hb3:w4.heap[b3]?=some (Bl 183 [.bool inner,.slice a n cc]):=H.get at1;have hbt:=T4.tr;have hcell:=R4.fld hx0 rfl (j:=0) rfl
   have hbl:(HQ inner M).length<=505:=by
    unfold SV GD at h2'
    by_cases h5:505<(HQ inner M).length
    .rw[qal h5]at h2';exact absurd (by cases decide ((HR inner M).toNat=0) <;> simp) h2'
    .omega
   have hsl:sm.length=512:=by rw[hmm'];exact FF hbl
   refine Ap (Aa (BR [([0,1,2,3,4,5,6,7,8,9,10,11,12,13,14,15,16,17,18,19,20,21,22,23],24),([],25),([],26)] (fun z=>z.heap[bc]?=some (Bl TC [ptr bt,.slice a31 (c.tk.length+1) c31,.slice ga c.gn.length gc])/\z.heap[b3]?=some (Bl 183 [.bool inner,.slice a n cc])/\z.heap[bt]?=some (Bl TT (Qq bd bp fr))/\z.cell? ⟨(adr a).block,(adr a).off+0*3+0,none⟩=some (.slice x.ka x.it.key.length x.kc)) [] mixed (⟨hbc,hb3,hbt,hcell⟩) ?_));refine AC U U (AD Br U (BG BT U (fun _ hx=>Ar hx.2.1 (0+1)) ?_));refine Cr R4 Bw Bm U U (AD FC U (BG B4 U (fun _ hx=>hx.2.2.2) ?_));refine B9 U (ED [.slice x.ka x.it.key.length x.kc,.slice none 0 0,.int .i64 (Ci c.P:Int)] Nc C3 ?_);refine Cs U (Bg U (AD JL U (BG JK U (fun _ hx=>Ar hx.1 (0+0)) ?_)))
   refine Bg U (AD Xn U (BG Dn U (fun _ hx=>Ar hx.2.2.1 (0+0)) ?_));refine Cs U (Bg U (AD JL U (BG JK U (fun _ hx=>Ar hx.1 (0+0)) ?_)));refine Bg U (AD Xo U (BG DW U (fun _ hx=>Ar hx.2.2.1 (0+2)) ?_));refine B9 U (Fk U U ?_);rw[show(fr:Int)+(Ci c.P:Int)=((fr+Ci c.P:Nat):Int)by omega];refine BF U (AU ?_)
   skip
   refine Ai qB (Po ((fr+Ci c.P:Nat):Int) sa sc _ sm (Xm.1.ext0 (Ext.drew [] w4)) U (hm:=by omega) (Xm.2.imp id fun h hf=>h (hFlt _ hf)) hfew T4d.dev) U ?_;rintro v w5 ⟨rfl,hd5,ht5⟩;obtain⟨T5,G5⟩:=T4d.devs hd5 ht5 (fun x hx=>hx);obtain⟨R5,hs5⟩:=Rd.turnM R4d hs4 (by decide) (fun _ _=>rfl) G5;replace H:=T5.ctx;have G15:=G1d.trans G5;refine Ab (Bc (⟨T5.ctx.get at2,T5.ctx.get at1,T5.tr,R5.fld hx0 U (j:=0) rfl⟩) (AC U U ?_));refine AU (Bo Bm U U U (by simp[Bi]) H at0 U ?_);rintro w H;refine Ab (Bc (⟨H.get at2,H.get at1,(T5.own H).1.tr,(Rd.turnM R5 hs5 (by decide) (fun _ _=>rfl) (T5.own H).2).1.fld hx0 U (j:=0) rfl⟩) ?_);refine AC U U (AU (Ac U (Ab (Bc (⟨H.get at2,H.get at1,(T5.own H).1.tr,(Rd.turnM R5 hs5 (by decide) (fun _ _=>rfl) (T5.own H).2).1.fld hx0 U (j:=0) rfl⟩) ?_))));refine B1 (Ax (Dx U U U Ds Bm H at0 U (show _=(.int _ _)from rfl) ?_))
   obtain⟨T6,G6⟩:=T5.own (H.tail.tail.perm (List.perm_append_comm.cons _));have G16:=G15.trans G6;have hxo:=(hok x (qad hx0)).turn (G16.or Z);refine⟨⟨x.ka,x.kc,none,0,⟨x.it.key,[],Ci c.P⟩⟩,_,_,by rw[hwr,hmm'];rfl,?_,G16,⟨hxo.k,Rdx.nil,hxo.kc,qae _⟩,by dsimp only;omega,fun _=>by rw[hk0]⟩;rw[hwr];rw[hmm']at T6;exact⟨T6,a31,c31,f31,ga,gc,gf,by rw[hl1];rfl,hO,Og⟩
def rdC(fr:Nat)(c:Ch)(page depth:Nat):Ch:=if(Dr c.A fr c.P.length (page:Int) (depth:Int)).1=0 then{ c with gn:=c.gn++[page] }else c
theorem XH{w:World}{bt bd bp ba fr bc:Nat}{c:Ch}{F:Mut}{L:List (Nat × Obj)}(X:Cx w bt bd bp ba fr bc c F L)(hfr:fr<=5000)(page depth:Nat){mx:Nat}(hfew:Few c.A mx)(hgn:c.gn.length<=100000:=by omega)(hp:page<=9223372036854775807:=by omega)(hmx:mx<=1000000000:=by omega):
  Ret prog 201 #[ptr bc,.int .i64 (page:Int),.int .i64 (depth:Int)] w fun v w'=>∃(inner:Bool) (a:Option Addr) (n cc:Nat) (L':List (Nat × Obj)),v=.tuple #[.agg #[.bool inner,.slice a n cc],.int .i64 (Dr c.A fr c.P.length (page:Int) (depth:Int)).1]/\Cx w' bt bd bp ba fr bc (rdC fr c page depth) F L'/\Grown (TM F ba bt bp L) (TM F ba bt bp L') w w' /\
   ∀i M,(Dr c.A fr c.P.length (page:Int) (depth:Int)).2=some (i,M)->inner=i/\Its w' (MZ (TM F ba bt bp L') (Old w)) a n cc M/\∀x∈M,x.key.length<=505/\x.val.length<=505/\x.page<4294967296:=by
 obtain⟨w0,rfl⟩:=qD w;obtain⟨T,ta,tc,tf,ga,gc,gf,rfl,Ot,Og⟩:=X;have H:=T.ctx;obtain⟨rt,hrt⟩:=qD (Dr c.A fr c.P.length (page:Int) (depth:Int));have hc2:rdC fr c page depth=if rt.1=0 then{ c with gn:=c.gn++[page] }else c:=by rw[hrt];rfl
 refine A6 (fn:=f201) func201 U [.pointer (some ⟨bc,0,none⟩),.int .i64 (page:Int),.int .i64 (depth:Int)] U ?_;refine Ad (Bj Cl H ?_);rintro b6 w - H;refine Ac U (qA (Ad (Am U (A8 U (Af JL U (AH JK U H at1 U (Ae U (Ae U ?_))))))));obtain⟨T1,G1⟩:=T.own H;have hml:=T1.mlt;have hsz:=H.ext.size;refine Ai qB (SS T1 hfr (page:Int) (depth:Int) (by omega) hfew hmx) U ?_;rintro v w2 ⟨inner,aa,nn,cc,rfl,hx17,hits⟩;have T2:=T1.call hx17;have G12:=G1.trans (.call0 hx17);rw[<-hrt]at hits;rw[<-hrt];replace H:=T2.ctx;refine AQ U (Ah U U (Ah U U (Bj Cl H ?_)));rintro b8 w - H;refine Bo Bh U U U (by simp[Bi]) H at0 U ?_;rintro w H;refine Ac U (qA (Aq (Ad (Ae U (B6 U U (qA (Au _ U ?_ ?_)))))))
 .intro h1;replace h1:=AV h1;rw[if_pos h1]at hc2;have hl1:(c.gn++[page]).length=c.gn.length+1:=by simp
  refine Av (Am U (Am U (A8 U (Af Sk U (AH IJ U H at2 U (Ae U (BJ _ (.int _ _) FB Hv ZF U U U U H ?_)))))));rintro b28 w - H;refine BO (L:=_::_::_::ent ta 3 tf) FB FB Hv by_3 ZF U U U H Og U (by simp[Bi]) ?_;rintro a29 c29 f29 w H O29;refine A8 U (Af Sk U (Bf (.slice _ _ _) Sq U U U H at2 (by(simp;done)) ?_));rintro w H;refine qA (Ad (BN BQ Bh U H at0 U (Ae U (Bo Bh U U U (by simp[Bi]) H at1 U ?_))));rintro w H;refine Ac U (qA (Ax (Dx U U U BQ Bh H at1 U (show _=(.int _ _)from rfl) ?_)))
  have hO:OS a29 (c.gn++[page]).length c29 1 f29 ((c.gn++[page]).map pv):=by
   rw[hl1,qaz];exact O29
  obtain⟨T5,G5⟩:=T2.own H.tail.tail;have G15:=G12.trans G5;refine⟨inner,aa,nn,cc,_,rfl,?_,G15,fun i M h=>?_⟩
  .rw[hc2];exact⟨T5,ta,tc,tf,a29,c29,f29,by rw[hl1];rfl,Ot,hO⟩
  .obtain⟨h5,h6,h7⟩:=hits i M h;exact⟨h5,(h6.weak (M':=MZ _ (Old w0)) fun x h=>h.elim (hml x) fun h=>qas h hsz).turn (G5.or _),h7⟩
 .intro h1;replace h1:=AW h1;rw[if_neg h1]at hc2;refine Ap (Aa (Ad (BN BQ Bh U H at0 U (Ae U (Bo Bh U U U (by simp[Bi]) H at1 U ?_)))));rintro w H;refine Ac U (qA (Ax (Dx U U U BQ Bh H at1 U (show _=(.int _ _)from rfl) ?_)));obtain⟨T5,G5⟩:=T2.own H.tail.tail;have G15:=G12.trans G5;refine⟨inner,aa,nn,cc,_,rfl,?_,G15,fun i M h=>?_⟩
  .rw[hc2];exact⟨T5,ta,tc,tf,ga,gc,gf,rfl,Ot,Og⟩
  .obtain⟨h5,h6,h7⟩:=hits i M h;exact⟨h5,(h6.weak (M':=MZ _ (Old w0)) fun x h=>h.elim (hml x) fun h=>qas h hsz).turn (G5.or _),h7⟩
def C4(fr:Nat)(inner:Bool):List (List It)->Ch->List It->Int × Ch × List It
 | [],c,acc=>(0,c,acc)
 |h::t,c,acc=>if(wrC fr c inner h).1=0 then C4 fr inner t (wrC fr c inner h).2 (acc++[⟨Gu h,[],Ci c.P⟩])else((wrC fr c inner h).1,(wrC fr c inner h).2,[])
def JC(fr:Nat)(c:Ch)(inner:Bool)(L:List It):Int × Ch × List It:=if L=[]then(0,c,[])else C4 fr inner (DN inner L) c []
theorem QL{fr:Nat}{c:Ch}{inner:Bool}{M:List It}{m:Nat}(h:Few c.A m):Few (wrC fr c inner M).2.A (m+1):=by
 unfold wrC
 split
 .exact h.mono (by omega)
 .split
  .exact h.mono (by omega)
  .exact Hy h _ _
theorem SW{fr:Nat}{c:Ch}{inner:Bool}{M:List It}:(wrC fr c inner M).2.tk.length<=c.tk.length+1:=by
 unfold wrC
 split
 .exact qdd _
 .split
  .rw[qan];exact qae _
  .rw[qan];exact qae _
theorem Tx.side{w w':World}{bt bd bp ba fr:Nat}{A:Dev}{P:List Nat}{F:Mut}{L:List (Nat × Obj)}{S:List Nat}(T:Tx w bt bd bp ba fr A P F L)(hx:Ext S w w')(hS:∀x∈S,¬TM F ba bt bp L x):Tx w' bt bd bp ba fr A P F L:=by
 have hs:=hx.size;refine⟨?_,T.pg.keep hx (fun h=>hS _ h (.inr (.inr (.inr (.inl rfl))))) (fun h=>hS _ h (.inr (.inl rfl))),T.dev.keep hx fun x h hf=>hS x h (.inl hf),fun x hm=>?_,T.nd,T.off,T.nbt,T.nbp,T.nba,fun x h=>by have:=T.lt x h;omega⟩
 .rw[hx.block bt (Al T.tr) fun h=>hS _ h (.inr (.inr (.inl rfl)))];exact T.tr
 .rw[hx.block x.1 (Al (T.blk x hm)) fun h=>hS _ h (.inr (.inr (.inr (.inr (qah.2 ⟨x,hm,rfl⟩)))))];exact T.blk x hm
theorem Cx.side{w w':World}{bt bd bp ba fr bc:Nat}{c:Ch}{F:Mut}{L:List (Nat × Obj)}{Y:List (Nat × Obj)}(X:Cx w bt bd bp ba fr bc c F L)(O:Fo w (TM F ba bt bp L) Y)(hx:Ext (Y.map (·.1)) w w'):Cx w' bt bd bp ba fr bc c F L :=
 ⟨X.T.side hx fun x h=>by obtain⟨y,hy,rfl⟩:=qah.1 h;exact O.off y hy,X.ex⟩
theorem SX{inner:Bool}{L h:List It}(hh:h∈DN inner L):h.length<=L.length/\∀x∈h,x∈L:=by
 unfold DN at hh
 split at hh
 .rw[qaa.1 hh];exact⟨qae _,fun _ h=>h⟩
 .simp only[qac,qam,or_false]at hh
  rcases hh with rfl|rfl
  .exact⟨by simp;omega,fun x h=>qbp h⟩
  .exact⟨by simp,fun x h=>qcy h⟩
theorem SY(inner:Bool)(L:List It):(DN inner L).length<=2:=by
 unfold DN
 split <;> simp
theorem MY.le{M:Mut}{Y:List (Nat × Obj)}:∀x,M x->MY M Y x:=fun _ h => .inl h
theorem Fo.lt{w:World}{M:Mut}{Y:List (Nat × Obj)}(O:Fo w M Y)(hlt:∀x,M x->x<w.heap.size):∀x,MY M Y x->x<w.heap.size:=fun x h=>by
 rcases h with h|h
 .exact hlt x h
 .obtain⟨y,hy,rfl⟩:=qah.1 h;exact Al (O.blk y hy)
structure PS where
 i:Nat
 a:Option Addr
 c:Nat
 full:List Value
 ms:List Im
 F:Mut
 L:List (Nat × Obj)
 ch:Ch
theorem MYZ{M Z:Mut}{Y:List (Nat × Obj)}:∀x,MZ M (MY Z Y) x->MY (MZ M Z) Y x:=fun _ h=>h.elim (fun h => .inl (.inl h)) fun h=>h.elim (fun h => .inl (.inr h)) .inr
theorem Aef{M Z:Mut}{Y:List (Nat × Obj)}:∀x,MY (MZ M Z) Y x->MZ M (MY Z Y) x:=fun _ h=>h.elim (fun h=>h.elim .inl fun h => .inr (.inl h)) fun h => .inr (.inr h)
theorem MY.nil{M:Mut}:∀x,MY M [] x->M x:=fun x h=>h.elim id fun h=>by cases h
theorem Grown.side{w0 w w':World}{M M':Mut}{S:List Nat}(t:Grown M M' w0 w)(hx:Ext S w w')(hy:∀y∈S,w0.heap.size<=y):Grown M M' w0 w':=by
 obtain⟨⟨S,hS,h1⟩,g⟩:=t;exact⟨⟨S,hS,h1.then hx fun y h => .inr (hy y h)⟩,g⟩
theorem Ajg(inner:Bool)(x:SN):∀v∈Lm inner x,Bi v=true:=fun v hv=>by
 simp only[Lm,qac,qam,or_false]at hv
 rcases hv with rfl|rfl <;> rfl
theorem Om{w0 w w':World}{Y Y':List (Nat × Obj)}(h:∀y∈Y.map (·.1),w0.heap.size<=y)(hle:w0.heap.size<=w.heap.size)(H:Ctx w (Y.map (·.1)) w' Y'):∀y∈Y'.map (·.1),w0.heap.size<=y:=fun y hy=>by
 obtain⟨z,hz,rfl⟩:=qah.1 hy;exact(H.own z hz).elim (h _) fun h5=>by omega
abbrev PY(b3:Nat)(inner:Bool)(a:Option Addr)(n cc:Nat)(s:PS):List (Nat × Obj) :=
 (b3,Bl 183 [.bool inner,.slice a n cc])::ent s.a 185 s.full
theorem Ab9{w:World}{bt bd bp ba fr bc:Nat}{c:Ch}{F:Mut}{L:List (Nat × Obj)}(X:Cx w bt bd bp ba fr bc c F L)(hfr:fr<=5000)(htk:c.tk.length<=99990)(inner:Bool){a:Option Addr}{n cc:Nat}{M:List It}(Z:Mut)(hZ:∀x,Z x->x<w.heap.size)(I:Its w (MZ (TM F ba bt bp L) Z) a n cc M)(hsz:∀x∈M,x.key.length<=65535/\x.val.length<=65535)(hpg:∀x∈M,x.page<9223372036854775808)(hne:M≠[]->∀h∈DN inner M,h≠[]){mx:Nat}(hfew:Few c.A mx)(hm:n<=1000:=by omega)(hmx:mx<=999999990:=by omega):
  Ret prog 202 #[ptr bc,.agg #[.bool inner,.slice a n cc]] w fun v w'=>∃(a':Option Addr) (n' c':Nat) (F':Mut) (L':List (Nat × Obj)),v=.tuple #[.slice a' n' c',.int .i64 (JC fr c inner M).1]/\Cx w' bt bd bp ba fr bc (JC fr c inner M).2.1 F' L'/\Grown (TM F ba bt bp L) (TM F' ba bt bp L') w w'/\Its w' (MZ (TM F' ba bt bp L') Z) a' n' c' (JC fr c inner M).2.2:=by
 obtain⟨w0,rfl⟩:=qD w;have hnum:=I.num;have hlt0:∀x,MZ (TM F ba bt bp L) Z x->x<w0.heap.size:=fun x h=>h.elim (X.T.mlt x) (hZ x);obtain⟨pc,hpc⟩:=qD (JC fr c inner M);rw[<-hpc];unfold JC at hpc;have H:=Ctx.start w0 [];refine A6 (fn:=f202) func202 U [.pointer (some ⟨bc,0,none⟩),.agg #[.bool inner,.slice a n cc]] U ?_;refine Ad (Cn [.bool inner,.slice a n cc] (.agg _) U U H ?_);rintro b3 w - H;refine Ak U (Ac U (qA (Aq (Ad (Af Br U (AH BT U H at0 U (AP Bw U (B6 U U (qA ?_)))))))));refine Au _ U ?_ ?_
 .intro h1;replace h1:=AV h1;have hM0:M=[]:=qa4 (by omega);rw[if_pos hM0]at hpc;refine Ad (Ak U (Ac U (qA (Ax (Ao (Ce (v1:=(.slice _ _ _)) (v2:=(.int _ _)) U U U U ?_))))));have hx0:=H.ext;obtain⟨O1,G1⟩:=Fo.nil.own hlt0 H;exact⟨none,0,0,F,L,by rw[hpc],by rw[hpc];exact X.side Fo.nil H.ext,.call0 H.ext,by rw[hpc];exact Its.nil⟩
 .intro h1;replace h1:=AW h1;have hM0:M≠[]:=fun h=>h1 (by have h5:=qab List.length h;rw[qby]at h5;omega);rw[if_neg hM0]at hpc;replace hne:=hne hM0;refine Ap (Aa (Aq (Ad (BN BQ Bh U H at0 U ?_))));obtain⟨O1,G1⟩:=Fo.nil.own hlt0 H;have X1:=X.side Fo.nil H.ext;have hyo2:=Om (w0:=w0) (Y:=[]) (fun y h=>by cases h) (qae _) H;have hsz1:=H.ext.size;have GT1:Grown (TM F ba bt bp L) (TM F ba bt bp L) w0 w := .call0 H.ext;refine Ai qB (Aec (O1.lt fun x h=>h.elim (X1.T.mlt x) fun h=>qas (hZ x h) hsz1) inner ((I.weak MY.nil).turn G1) hsz) U ?_;rintro v w2 ⟨an,nn,cn,rfl,N,hx2⟩;obtain⟨ms,R,hs,hl,hok⟩:=N.ex;have hnn:=N.num;have h2:=SY inner M;have hml:ms.length=nn:=by rw[hnn,<-hl,qaj]
  obtain⟨O2,G2⟩:=O1.call (.call0 hx2);have X2:=X1.side Fo.nil hx2;have hsz2:=qav hsz1 hx2.size;replace H:=O2.ctx
  refine AP EQ U (Ae U (qA (AE (B7 34359608240 (α:=PS) (fun s=>[(17,.int .i64 (s.i:Int)),(4,.slice s.a s.ms.length s.c)]) (fun s w'=>s.i<=nn/\Cx w' bt bd bp ba fr bc s.ch s.F s.L/\Fo w' (MZ (TM s.F ba bt bp s.L) Z) (PY b3 inner a n cc s)/\Nds w' (MY (MZ (TM s.F ba bt bp s.L) Z) (PY b3 inner a n cc s)) inner an nn cn (DN inner M)/\OS s.a s.ms.length s.c 3 s.full (s.ms.flatMap Im.enc)/\(∀m∈s.ms,m.Ok w' (MY (MZ (TM s.F ba bt bp s.L) Z) (PY b3 inner a n cc s)))/\Grown (TM F ba bt bp L) (TM s.F ba bt bp s.L) w0 w'/\pc=C4 fr inner ((DN inner M).drop s.i) s.ch (s.ms.map (·.it))/\Few s.ch.A (mx+s.i)/\s.ch.tk.length<=c.tk.length+s.i/\s.ms.length=s.i/\(∀y∈(PY b3 inner a n cc s).map (·.1),w0.heap.size<=y)/\w0.heap.size<=w'.heap.size) (fun s=>nn - s.i) ⟨0,none,0,[],[],F,L,c⟩ U ?_ ?_ ?_))))
  .exact⟨rfl,rfl,trivial⟩
  .exact⟨qak _,X2,O2,N,OS.nil,(fun m h=>by cases h),GT1.trans (.call0 hx2),hpc,hfew,qae _,rfl,hyo2,hsz2⟩
  .rintro⟨i,a4,c4,f4,qs,F1,L1,c1⟩ j w ⟨hi,X3,O3,N3,OA,hqo,GT3,hpc3,hfew3,htk3,hqi,hyo,hsz3⟩;dsimp only at hi X3 O3 N3 OA hqo GT3 hpc3 hfew3 htk3 hqi hyo hsz3;dsimp only;obtain⟨ns,R3,hs3,hl3,hok3⟩:=N3.ex;have hnl:ns.length=nn:=by rw[hnn,<-hl3,qaj]
   have H:=O3.ctx;refine Ad (Bn U U (qA (Aq (Au _ U ?_ ?_))))
   .intro h3;replace h3:=AV h3;obtain⟨x,hx1⟩:=AO (l:=ns) (i:=i);have hxL:(DN inner M)[i]?=some x.2.1:=by rw[<-hl3,qat,hx1];rfl
    have hxm:=qad hxL;obtain⟨hx2,hx3⟩:=SX hxm;have Ix:=hok3 x (qad hx1);rw[Ey hxL,C4]at hpc3;refine Ap (Aa (Aq (AE (Ad (AY R EQ Bh U U ?_)))));refine EY (Lm inner x) BQ Bh U U (R3.row hx1 U) (Bj Cl H ?_);rintro b7 w - H;refine Bo Bh U U U (by exact(by exact Ajg _ _)) H at0 U ?_;rintro w H;refine qA (Ad (Am U (BN BQ Bh U H at0 U ?_)));obtain⟨O4,G4⟩:=O3.own (fun x h=>h.elim (X3.T.mlt x) fun h=>qas (hZ x h) hsz3) H;have X4:=X3.side (O3.weak fun _ h => .inl h) H.ext;have GT4:=GT3.side H.ext hyo;have hyo4:=Om hyo hsz3 H;have Iy:=Ix.turn G4;refine Ai qB (Py X4 hfr inner (MY Z _) (Iy.weak MYZ) (hne _ hxm) (fun y hy=>hsz y (hx3 y hy)) (fun y hy=>hpg y (hx3 y hy)) hfew3) U ?_;rintro v w5 ⟨m,F5,L5,rfl,X5,G5,hmo,hmp,hmi⟩;have hmo:=hmo.weak Aef
    obtain⟨O5,GY5⟩:=O4.call (G5.or Z);have GT5:=GT4.trans G5;have GY:=G4.trans GY5;replace H:=O5.ctx;refine AQ U (Ah U U (Ah U U (Bj C3 H ?_)));rintro b8 w - H;refine Bo Bm U U U (by exact(by exact Im.oneE _)) H at0 U ?_;rintro w H;refine Ac U (qA (Aq (Ad (Ae U (Ba U U (qA (Au _ U ?_ ?_)))))))
    .intro h4;replace h4:=Bu h4;rw[if_neg (show ¬(wrC fr c1 inner x.2.1).1=0 from h4)]at hpc3;refine Ad (Ae U (Ak U (Ac U (qA (Ax (Ao (AL (Ao (Ao (AL (Ao (Ce (v1:=(.slice _ _ _)) (v2:=(.int _ _)) U U U U ?_))))))))))));exact⟨none,0,0,F5,L5,by rw[hpc3],by rw[hpc3];exact X5.side (O5.weak fun _ h => .inl h) H.ext,GT5.side H.ext hyo4,by rw[hpc3];exact Its.nil⟩
    .intro h4;replace h4:=Bv h4;have h5:(wrC fr c1 inner x.2.1).1=0:=by simpa using h4
     rw[if_pos h5]at hpc3;have hmi':=hmi h5;refine Ap (Aa (Av (Aj U (BN Ds Bm U H at0 U (BJ _ (.agg _) Bw Bm C3 U U U U H ?_)))));rintro b32 w - H;refine BO (L:=[_,_,_]) Bw Bw Bm Kn C3 U U U H OA U (Im.oneE m) ?_;rintro a33 c33 f33 w H OB;refine Ak U (Ab (AF (Aa (Av (A7 U U ?_)))));refine Ae U (qA ?_);have H6:=H.tail.tail;have hsz5:w0.heap.size<=w5.heap.size:=GT5.1.choose_spec.2.size;obtain⟨O6,G6⟩:=O5.own (fun x h=>h.elim (X5.T.mlt x) fun h=>qas (hZ x h) hsz5) H6;have GG:=GY.trans G6;have hql:(qs++[m]).length=qs.length+1:=by simp
     refine⟨⟨i+1,a33,c33,f33,qs++[m],F5,L5,(wrC fr c1 inner x.2.1).2⟩,rfl,⟨rfl,by rw[hql];rfl,trivial⟩,⟨by dsimp only;omega,X5.side (O5.weak fun _ h => .inl h) H6.ext,O6,N3.turn GG,by dsimp only;rw[hql,qbf];simpa using OB,fun q hq=>?_,GT5.side H6.ext hyo4,?_,by dsimp only;exact(QL hfew3).mono (by omega),by dsimp only;have:=SW (fr:=fr) (c:=c1) (inner:=inner) (M:=x.2.1);omega,by dsimp only;rw[hql,hqi],Om hyo4 hsz5 H6,qav hsz5 H6.ext.size⟩,by dsimp only;omega⟩
     .dsimp only at hq |-
      rcases qau.1 hq with hq|hq
      .exact(hqo q hq).turn GG
      .rw[qaa.1 hq];exact hmo.turn G6
     .dsimp only;rw[hpc3,qaz,<-hmi'];rfl
   .intro h3;replace h3:=AW h3;have hii:i=nn:=by omega
    rw[qb7 (by omega),C4]at hpc3;have Rm:=OS.rd OA (fun y hy=>O3.blk y (qai _ hy)) (fun _ _=>rfl) (by decide);refine B3 (Ay (Ay (Bb (Aa (Ad (Aj U (Ak U (Ac U (qA (Ax (Ce (v1:=(.slice _ _ _)) (v2:=(.int _ _)) U U U U ?_)))))))))));refine⟨a4,qs.length,c4,F1,L1,by rw[hpc3],by rw[hpc3];exact X3,GT3,?_⟩;rw[hpc3];refine⟨⟨qs,Rm,?_,rfl,fun m hm=>(hqo m hm).weak MY.le⟩,by simp,OA.le⟩
    cases ha4:a4 with
    |none=>exact .inl (qa4 (by have h8:=OA.le;have h9:=OA.none' ha4;omega))
    |some q =>
     subst ha4;exact .inr fun h=>O3.off (q.block,_) (qai _ (qaa.2 rfl)) h
def RD(A:Dev)(fr:Nat)(p:Nat):Option (Bool × List It):=Eu (stands (A.B.getD (fr+p) (zeros,[])))
theorem XI{A:Dev}{q:Nat}(hon:A.on=true)(hq:q<A.B.length):GK A (q:Int)=0:=by
 have:A.has (q:Int)=true:=by
  unfold Dev.has;rw[qal (by omega),qal (by omega)];rfl
 unfold GK;rw[hon,this];rfl
theorem Ajh{A:Dev}{q:Nat}(hon:A.on=true)(hq:q<A.B.length:=by omega):GL A (q:Int)=stands (A.B.getD q (zeros,[])):=by
 unfold GL;rw[XI hon hq,qbo];rfl
theorem Ln{A:Dev}{fr sz p d:Nat}{n:Bool × List It}(hon:A.on=true)(hp:p<sz)(hl:fr+sz<=A.B.length)(hd:d<=16)(h:RD A fr p=some n):Dr A fr sz (p:Int) (d:Int)=(0,some n):=by
 unfold Dr;rw[if_neg (by omega)];rw[show(fr:Int)+(p:Int)=((fr+p:Nat):Int)by omega,XI hon (by omega),Ajh hon,if_pos rfl];unfold RD at h;rw[h]
structure Fits(inner:Bool)(M:List It):Prop where
 ne:M≠[]
 ok:∀x∈M,OkI inner x
 sz:Bd inner M<=503
theorem Fits.seal{inner:Bool}{M:List It}(h:Fits inner M):SV inner M=0/\(Jv inner M).length=512/\Eu (Jv inner M)=some (inner,M):=by
 have hb:=Mn inner M;have hz:=h.sz;have hk:(HR inner M).toNat≠0:=by unfold HR;split <;> decide
 refine⟨?_,FF (by omega),ZK h.ok h.ne h.sz⟩;unfold SV GD;rw[qag hk,qag (by omega)];rfl
theorem ZU{P:List Nat}(h:CW P<P.length):P[CW P]?=some 0:=by
 unfold CW at *
 have h2:∀(P:List Nat),(P.takeWhile fun s=>decide (s≠0)).length<P.length->P[(P.takeWhile fun s=>decide (s≠0)).length]?=some 0:=by
  intro P
  induction P with
  |nil=>intro h;cases h
  |cons s P ih =>
   intro h
   by_cases hs:s=0
   .subst hs;rfl
   .rw[qc4,qal hs]at h |-;simp only[if_true,qaw]at h |-;rw[qez];exact ih (by omega)
 exact h2 P h
theorem ZV{P:List Nat}(h:CW P=P.length):DF P=0:=by
 have h2:∀(P:List Nat),(P.takeWhile fun s=>decide (s≠0)).length=P.length->DF P=0:=by
  intro P
  induction P with
  |nil=>intro _;rfl
  |cons s P ih =>
   intro h
   by_cases hs:s=0
   .subst hs;simp at h
   .rw[qc4,qal hs]at h;simp only[if_true,qaw]at h;unfold DF;rw[qel,qag hs];have:=ih (by omega);unfold DF at this;simp[this]
 exact h2 P h
theorem Aji(P:List Nat):CW P<=P.length:=(qff (l:=P) (fun s=>decide (s≠0))).length_le
theorem Ajj{P:List Nat}:∀{k s:Nat},P[k]?=some 0->s≠0->DF (P.set k s)+1=DF P:=by
 unfold DF
 induction P with
 |nil=>intro k s h;simp at h
 |cons x P ih =>
  intro k s h hs
  cases k with
  |zero =>
   simp only[qc7,qbb]at h;subst h;rw[qe1,qel,qel,qag hs];simp
  |succ k =>
   rw[List.set_cons_succ,qel,qel];have:=ih (k:=k) (s:=s) (by simpa using h) hs;omega
theorem Aeg{A:Dev}(h:A.left = -1):A.less=A:=by
 unfold Dev.less;rw[if_neg (by omega),if_pos h]
structure CI(fr:Nat)(c0 c:Ch)(t g:List Nat):Prop where
 tk:c.tk=c0.tk++t
 gn:c.gn=c0.gn++g
 nd:t.Nodup
 was:∀x∈t,c0.P[x]?=some 0
 now:∀x:Nat,c.P[x]?=if x∈t then some 2 else c0.P[x]?
 len:c.P.length=c0.P.length
 blen:c.A.B.length=c0.A.B.length
 blk:∀q,(∀x∈t,q≠fr+x)->c.A.B.getD q (zeros,[])=c0.A.B.getD q (zeros,[])
 left:c0.A.left = -1->c.A.left = -1
 free:DF c.P+t.length=DF c0.P
section
variable {fr:Nat}{c0 c c1 c2:Ch}{t t' g g':List Nat}
theorem CI.refl(fr:Nat)(c:Ch):CI fr c c [] []:=⟨by simp,by simp,qcb,by simp,by simp,rfl,rfl,fun _ _=>rfl,fun h=>h,rfl⟩
theorem CI.trans(h1:CI fr c0 c1 t g)(h2:CI fr c1 c2 t' g'):CI fr c0 c2 (t++t') (g++g'):=by
 have hd:∀x∈t',x∉t:=fun x h3 h4=>by
  have h5:=h2.was x h3;rw[h1.now x,if_pos h4]at h5;cases h5
 refine⟨by rw[h2.tk,h1.tk,qa1],by rw[h2.gn,h1.gn,qa1],?_,fun x hx=>?_,fun x=>?_,h2.len.trans h1.len,h2.blen.trans h1.blen,fun q hq=>?_,fun h=>h2.left (h1.left h),?_⟩
 .rw[qdm];exact⟨h1.nd,h2.nd,fun a ha b hb e=>hd b hb (e ▸ ha)⟩
 .rcases qau.1 hx with h|h
  .exact h1.was x h
  .have:=h2.was x h
   rwa [h1.now x,if_neg (hd x h)]at this
 .rw[h2.now x,h1.now x]
  by_cases ha:x∈t'
  .rw[if_pos ha,if_pos (qax _ ha)]
  .rw[if_neg ha]
   by_cases hb:x∈t
   .rw[if_pos hb,if_pos (qa5 _ hb)]
   .rw[if_neg hb,if_neg (fun h=>(qau.1 h).elim hb ha)]
 .rw[h2.blk q fun x hx=>hq x (qax _ hx),h1.blk q fun x hx=>hq x (qa5 _ hx)]
 .have:=h1.free;have:=h2.free;rw[qan];omega
theorem CI.gone(fr:Nat)(c:Ch)(p:Nat):CI fr c { c with gn:=c.gn++[p] } [] [p]:=⟨by simp,rfl,qcb,by simp,by simp,rfl,rfl,fun _ _=>rfl,fun h=>h,rfl⟩
def Held(P S:List Nat):Prop:=∀x∈S,∃s,P[x]?=some s/\s≠0
theorem Held.keep{S:List Nat}(h:Held c0.P S)(h1:CI fr c0 c t g):Held c.P S:=fun x hx=>by
 obtain⟨s,h2,h3⟩:=h x hx;rw[h1.now x]
 split
 .exact⟨2,rfl,by decide⟩
 .exact⟨s,h2,h3⟩
theorem CI.rd(h1:CI fr c0 c t g){S:List Nat}(h:Held c0.P S):∀x∈S,RD c.A fr x=RD c0.A fr x:=fun x hx=>by
 unfold RD;rw[h1.blk (fr+x) fun y hy e=>?_];obtain⟨s,h2,h3⟩:=h x hx;have h4:=h1.was y hy;rw[show y=x by omega,h2]at h4;exact h3 (qbw h4)
theorem CI.held(h1:CI fr c0 c t g):Held c.P t:=fun x hx=>⟨2,by rw[h1.now x,if_pos hx],by decide⟩
theorem Held.lt{P S:List Nat}(h:Held P S){x:Nat}(hx:x∈S):x<P.length:=by
 obtain⟨s,h2,_⟩:=h x hx;exact(qaq.1 h2).1
theorem CI.apart(h1:CI fr c0 c t g){S:List Nat}(h:Held c0.P S):∀x∈S,x∉t:=fun x hx ht=>by
 obtain⟨s,h2,h3⟩:=h x hx;have h4:=h1.was x ht;rw[h2]at h4;exact h3 (qbw h4)
theorem SZ{α:Type}{l:List α}{f:α->α}{i q:Nat}{d:α}(h:q≠i):(l.modify i f).getD q d=l.getD q d:=by
 rw[qa8,qa8,qcq];simp only[if_neg (fun e:i=q=>h e.symm)];cases l[q]? <;> rfl
theorem Ta{α:Type}{l:List α}{f:α->α}{i:Nat}{d:α}(h:i<l.length:=by omega):(l.modify i f).getD i d=f (l.getD i d):=by
 rw[qa8,qa8,qcq,qbd h];simp
theorem Ama{inner:Bool}{M:List It}(hon:c.A.on=true)(hl:fr+c.P.length<=c.A.B.length)(hM:Fits inner M) :
  ((wrC fr c inner M).1=7/\(wrC fr c inner M).2=c/\DF c.P=0) \/
  (CI fr c (wrC fr c inner M).2 [Ci c.P] [] /\
   (((wrC fr c inner M).1=0/\(wrC fr c inner M).2.A.on=true/\RD (wrC fr c inner M).2.A fr (Ci c.P)=some (inner,M))\/((wrC fr c inner M).1=8/\c.A.left ≠ -1))):=by
 obtain⟨hs1,hs2,hs3⟩:=hM.seal
 by_cases hf:CW c.P=c.P.length
 .left;have h7:Ic c.P=7:=by unfold Ic;rw[if_pos hf]
  have h8:wrC fr c inner M=(7,c):=by unfold wrC;rw[if_pos (by omega),h7]
  rw[h8];exact⟨rfl,rfl,ZV hf⟩
 .right;have hlt:CW c.P<c.P.length:=by have:=Aji c.P;omega
  have h7:Ic c.P=0:=by unfold Ic;rw[if_neg hf]
  have hk:Ci c.P=CW c.P:=by unfold Ci;rw[if_neg hf]
  have hP:IX c.P=c.P.set (CW c.P) 2:=by unfold IX;rw[if_neg hf]
  have h0:=ZU hlt
  have h8:wrC fr c inner M=(Dt c.A (((fr+CW c.P:Nat)):Int) (Jv inner M),⟨CE c.A (((fr+CW c.P:Nat)):Int) (Jv inner M),c.P.set (CW c.P) 2,c.tk++[CW c.P],c.gn⟩):=by
   unfold wrC;rw[if_neg (by omega),if_neg (by rw[hs1];simp),hk,hP]
  have hh:c.A.has (((fr+CW c.P:Nat)):Int)=true:=by unfold Dev.has;rw[qal (by omega),qal (by omega)];rfl
  have hB:∀(D:Dev),D.B=c.A.B\/D.B=c.A.B.modify (fr+CW c.P) (fun p=>(p.1,p.2++[Jv inner M]))->(c.A.left = -1->D.left = -1)->CI fr c ⟨D,c.P.set (CW c.P) 2,c.tk++[CW c.P],c.gn⟩ [CW c.P] []:=fun D hD hDl=>by
   refine⟨rfl,by simp,qck.2 ⟨by simp,qcb⟩,fun x hx=>?_,fun x=>?_,by simp,?_,fun q hq=>?_,hDl,?_⟩
   .rw[qaa.1 hx];exact h0
   .show(c.P.set (CW c.P) 2)[x]?=_
    by_cases hx:x=CW c.P
    .subst hx;rw[if_pos (by simp),qew hlt]
    .rw[if_neg (by simpa using hx),qex (fun e=>hx e.symm)]
   .show D.B.length=_
    rcases hD with h|h <;> rw[h]
    rw[qei]
   .show D.B.getD q _=_
    rcases hD with h|h <;> rw[h]
    exact SZ (hq _ (by simp))
   .exact Ajj h0 (by decide)
  rw[h8,hk]
  by_cases hg:c.A.goes=true
  .have hw:CE c.A (((fr+CW c.P:Nat)):Int) (Jv inner M)=c.A.less:=by unfold CE;rw[hon,hh,hs2,hg];rfl
   have he:Dt c.A (((fr+CW c.P:Nat)):Int) (Jv inner M)=8:=by unfold Dt;rw[hon,hh,hs2,hg];rfl
   have hl0:c.A.left=0:=by simpa[Dev.goes]using hg
   rw[hw,he];exact⟨hB _ (.inl (Gs _)) fun h=>by omega,.inr ⟨rfl,by omega⟩⟩
  .have hg:c.A.goes=false:=by simpa using hg
   have hw:CE c.A (((fr+CW c.P:Nat)):Int) (Jv inner M)=Pi c.A.less (fr+CW c.P) (Jv inner M):=by unfold CE;rw[hon,hh,hs2,hg,qbo];rfl
   have he:Dt c.A (((fr+CW c.P:Nat)):Int) (Jv inner M)=0:=by unfold Dt;rw[hon,hh,hs2,hg];rfl
   have hl0:¬c.A.left=0:=by simpa[Dev.goes]using hg
   rw[hw,he];refine⟨hB _ (.inr (by show(c.A.less.B).modify _ _=_;rw[Gs])) fun h=>by show c.A.less.left = -1;rw[Aeg h];exact h,.inl ⟨rfl,?_,?_⟩⟩
   .show c.A.less.on=true;unfold Dev.less;rw[if_neg hl0]
    split <;> exact hon
   .unfold RD;show Eu (stands ((c.A.less.B.modify (fr+CW c.P) _).getD (fr+CW c.P) _))=_;rw[Gs,Ta];show Eu ((((c.A.B.getD (fr+CW c.P) (zeros,[])).2++[Jv inner M]).getLast?).getD _)=_;rw[List.getLast?_concat];exact hs3
end
def BL(p:Pr):It:=⟨p.1,p.2,0⟩
def Kids(Q:Nat->List Pr->List Nat->Prop):List It->List Pr->List Nat->Prop
 | [],L,S=>L=[]/\S=[]
 |x::l,L,S=>∃L1 L2 S1 S2,L=L1++L2/\S=S1++S2/\Q x.page L1 S1/\L1[0]?.map (·.1)=some x.key/\x.val=[]/\Kids Q l L2 S2
def Many(i:Bool)(M:List It):Prop:=if i=true then 2<=M.length else M≠[]
def Part(R:Nat->Option (Bool × List It)):Nat->Bool->List It->List Pr->List Nat->Prop
 |0,i,M,L,S=>i=false/\M=L.map BL/\S=[]
 |h+1,i,M,L,S=>i=true/\Kids (fun p L S=>∃i' M' S',Part R h i' M' L S'/\R p=some (i',M')/\S=p::S'/\Many i' M'/\Bd i' M'<=503) M L S
def Lies(R:Nat->Option (Bool × List It))(h:Nat)(p:Nat)(L:List Pr)(S:List Nat):Prop :=
 ∃i' M' S',Part R h i' M' L S'/\R p=some (i',M')/\S=p::S'/\Many i' M'/\Bd i' M'<=503
def OkP(L:List Pr):Prop:=∀p∈L,1<=p.1.length/\p.1.length<=32/\p.2.length<=128
section
variable {R R':Nat->Option (Bool × List It)}{Q Q':Nat->List Pr->List Nat->Prop}{h:Nat}{i:Bool}{M l a b:List It}{L:List Pr}{S:List Nat}
theorem FK:Kids Q (a++b) L S↔∃La Lb Sa Sb,L=La++Lb/\S=Sa++Sb/\Kids Q a La Sa/\Kids Q b Lb Sb:=by
 induction a generalizing L S with
 |nil =>
  constructor
  .intro h;exact⟨[],L,[],S,rfl,rfl,⟨rfl,rfl⟩,h⟩
  .rintro⟨La,Lb,Sa,Sb,rfl,rfl,⟨rfl,rfl⟩,h⟩;exact h
 |cons x a ih =>
  constructor
  .rintro⟨L1,L2,S1,S2,rfl,rfl,h1,h2,h3,h4⟩;obtain⟨La,Lb,Sa,Sb,rfl,rfl,h5,h6⟩:=ih.1 h4;exact⟨L1++La,Lb,S1++Sa,Sb,by simp,by simp,⟨L1,La,S1,Sa,rfl,rfl,h1,h2,h3,h5⟩,h6⟩
  .rintro⟨La,Lb,Sa,Sb,rfl,rfl,⟨L1,L2,S1,S2,rfl,rfl,h1,h2,h3,h4⟩,h5⟩;exact⟨L1,L2++Lb,S1,S2++Sb,by simp,by simp,h1,h2,h3,ih.2 ⟨L2,Lb,S2,Sb,rfl,rfl,h4,h5⟩⟩
theorem Kids.mono(hk:Kids Q l L S)(hq:∀p L' S',(∀x∈S',x∈S)->Q p L' S'->Q' p L' S'):Kids Q' l L S:=by
 induction l generalizing L S with
 |nil=>exact hk
 |cons x l ih =>
  obtain⟨L1,L2,S1,S2,rfl,rfl,h1,h2,h3,h4⟩:=hk;exact⟨L1,L2,S1,S2,rfl,rfl,hq _ _ _ (fun x hx=>qa5 _ hx) h1,h2,h3,ih h4 fun p L' S' hs=>hq p L' S' fun x hx=>qax _ (hs x hx)⟩
theorem Part.frame:∀{h:Nat} {i:Bool} {M:List It} {L:List Pr} {S:List Nat},Part R h i M L S->(∀x∈S,R' x=R x)->Part R' h i M L S
 |0,_,_,_,_,hp,_=>hp
 |h+1,i,M,L,S,hp,hr=>⟨hp.1,hp.2.mono fun p L' S' hs ⟨i',M',S2,h1,h2,h3,h4⟩=>⟨i',M',S2,h1.frame fun x hx=>hr x (hs x (by rw[h3];exact qai _ hx)),by rw[hr p (hs p (by rw[h3];exact qaf ..))];exact h2,h3,h4⟩⟩
theorem Lies.frame{p:Nat}(hp:Lies R h p L S)(hr:∀x∈S,R' x=R x):Lies R' h p L S:=by
 obtain⟨i',M',S2,h1,h2,h3,h4⟩:=hp;exact⟨i',M',S2,h1.frame fun x hx=>hr x (by rw[h3];exact qai _ hx),by rw[hr p (by rw[h3];exact qaf ..)];exact h2,h3,h4⟩
theorem Kids.frame(hk:Kids (Lies R h) l L S)(hr:∀x∈S,R' x=R x):Kids (Lies R' h) l L S :=
 hk.mono fun _ _ _ hs hq=>hq.frame fun x hx=>hr x (hs x hx)
theorem Lies.page{p:Nat}(hp:Lies R h p L S):p∈S:=by
 obtain⟨i',M',S2,h1,h2,h3,h4⟩:=hp;rw[h3];exact qaf ..
theorem Kids.ne(hk:Kids Q l L S)(hl:l≠[]):L≠[]:=by
 cases l with
 |nil=>exact absurd rfl hl
 |cons x l =>
  obtain⟨L1,L2,S1,S2,rfl,rfl,h1,h2,h3,h4⟩:=hk
  cases L1 with
  |nil=>cases h2
  |cons y L1=>simp
theorem Many.ne(h:Many i M):M≠[]:=by
 unfold Many at h
 split at h
 .intro e;rw[e]at h;simp at h
 .exact h
theorem Part.ne(hp:Part R h i M L S)(hm:M≠[]):L≠[]:=by
 cases h with
 |zero=>obtain⟨_,rfl,_⟩:=hp;exact fun e=>hm (by rw[e];rfl)
 |succ h=>exact hp.2.ne hm
theorem Lies.ne{p:Nat}(hp:Lies R h p L S):L≠[]:=by
 obtain⟨i',M',S2,h1,h2,h3,h4,h5⟩:=hp;exact h1.ne h4.ne
theorem Kids.items(hk:Kids (Lies R h) l L S)(ho:OkP L):∀x∈l,x.val=[]/\x.key.length<=32/\x.page∈S:=by
 induction l generalizing L S with
 |nil=>intro x hx;cases hx
 |cons y l ih =>
  obtain⟨L1,L2,S1,S2,rfl,rfl,h1,h2,h3,h4⟩:=hk;intro x hx
  rcases qac.1 hx with rfl|hx
  .refine⟨h3,?_,qa5 _ h1.page⟩
   cases L1 with
   |nil=>cases h2
   |cons z L1 =>
    simp only[qc7,qbc,qbb]at h2;rw[<-h2];exact(ho z (by simp)).2.1
  .have:=ih h4 (fun p hp=>ho p (qax _ hp)) x hx;exact⟨this.1,this.2.1,qax _ this.2.2⟩
theorem Part.ok(hp:Part R h i M L S)(ho:OkP L){P:List Nat}(hh:Held P S)(hP:P.length<=4096):∀x∈M,OkI i x/\CK i x<=164/\(i=true->CK i x<=38):=by
 cases h with
 |zero =>
  obtain⟨rfl,rfl,_⟩:=hp;intro x hx;obtain⟨p,hp,rfl⟩:=qah.1 hx;obtain⟨h1,h2,h3⟩:=ho p hp;refine⟨⟨?_,?_,by show(0:Nat)<_;omega,by simp[BL]⟩,?_,fun h=>by cases h⟩
  .show p.1.length<_;omega
  .show p.2.length<_;omega
  .show 4+p.1.length+p.2.length<=_;omega
 |succ h =>
  obtain⟨rfl,hk⟩:=hp;intro x hx;obtain⟨h1,h2,h3⟩:=Kids.items hk ho x hx;have:=hh.lt h3;have h38:CK true x<=38:=by show 6+x.key.length<=38;omega
  refine⟨⟨by omega,by rw[h1];simp,by omega,by simp[h1]⟩,by omega,fun _=>h38⟩
theorem Part.key(hp:Part R h i M L S)(hm:M≠[]):L[0]?.map (·.1)=some (Gu M):=by
 cases h with
 |zero =>
  obtain⟨rfl,rfl,_⟩:=hp
  cases L with
  |nil=>exact absurd rfl hm
  |cons p L=>rfl
 |succ h =>
  obtain⟨rfl,hk⟩:=hp
  cases M with
  |nil=>exact absurd rfl hm
  |cons x M =>
   obtain⟨L1,L2,S1,S2,rfl,rfl,h1,h2,h3,h4⟩:=hk
   cases L1 with
   |nil=>cases h2
   |cons y L1=>exact h2
theorem Part.append(h1:Part R h i (a++b) L S):∃La Lb Sa Sb,L=La++Lb/\S=Sa++Sb/\Part R h i a La Sa/\Part R h i b Lb Sb:=by
 cases h with
 |zero =>
  obtain⟨rfl,he,rfl⟩:=h1;obtain⟨La,Lb,rfl,ha,hb⟩:=List.append_eq_map_iff.1 he;exact⟨La,Lb,[],[],rfl,rfl,⟨rfl,ha.symm,rfl⟩,⟨rfl,hb.symm,rfl⟩⟩
 |succ h =>
  obtain⟨La,Lb,Sa,Sb,e1,e2,ha,hb⟩:=FK.1 h1.2;exact⟨La,Lb,Sa,Sb,e1,e2,⟨h1.1,ha⟩,⟨h1.1,hb⟩⟩
end
theorem Wl{inner:Bool}{half m:Nat}:∀{l:List It} {sum:Nat},(∀x∈l,CK inner x<=m)->sum<half+m->sum+Bd inner (l.take (KA inner half l sum))<half+m
 | [],sum,_,h=>by simpa[KA,Bd]using h
 |x::l,sum,hl,h=>by
  rw[KA]
  split
  .rename_i h1
   rw[qek,Da,<-qcl];exact Wl (fun y hy=>hl y (qai _ hy)) (by have:=hl x (qaf ..);omega)
  .simpa[Bd]using h
theorem Aca{inner:Bool}{half:Nat}:∀{l:List It} {sum:Nat},half<=sum+Bd inner l->half<=sum+Bd inner (l.take (KA inner half l sum))
 | [],sum,h=>by simpa[KA,Bd]using h
 |x::l,sum,h=>by
  rw[KA]
  split
  .rename_i h1
   rw[qek,Da,<-qcl];exact Aca (by rw[Da]at h;omega)
  .rename_i h1;rw[qdw];show half<=sum+0;omega
theorem Fp{inner:Bool}{m:Nat}:∀{l:List It},(∀x∈l,CK inner x<=m)->Bd inner l<=m*l.length
 | [],_=>qak _
 |x::l,h=>by
  have h1:=Fp (l:=l) fun y hy=>h y (qai _ hy);have h2:=h x (qaf ..);rw[Da,qaw,Nat.mul_succ];omega
theorem Qr{i:Bool}{M:List It}(hM:Many i M)(hT:Bd i M<=667)(hs:∀x∈M,CK i x<=164/\(i=true->CK i x<=38)) :
  (Bd i M<=503/\DN i M=[M])\/(∃a b,M=a++b/\DN i M=[a,b]/\Many i a/\Many i b/\Bd i a<=503/\Bd i b<=503):=by
 unfold DN
 by_cases h1:Bd i M<=503
 .left;rw[if_pos h1];exact⟨h1,rfl⟩
 .right;rw[if_neg h1];refine⟨M.take (Gj i M),M.drop (Gj i M),(qbj ..).symm,rfl,?_⟩;have hsum:=BA i (M.take (Gj i M)) (M.drop (Gj i M));rw[qbj]at hsum
  have hge:Bd i M / 2<=Bd i (M.take (Gj i M)):=by
   have:=Aca (inner:=i) (half:=Bd i M / 2) (l:=M) (sum:=0) (by omega);rw[qa2]at this;exact this
  have hlt:Bd i (M.take (Gj i M))<Bd i M / 2+164:=by
   have:=Wl (inner:=i) (half:=Bd i M / 2) (m:=164) (l:=M) (sum:=0) (fun x hx=>(hs x hx).1) (by omega);rw[qa2]at this;exact this
  cases i with
  |false =>
   refine⟨?_,?_,by omega,by omega⟩
   .show _≠[];intro e;have e0:Bd false (M.take (Gj false M))=0:=(by rw[e];rfl);omega
   .show _≠[];intro e;have e0:Bd false (M.drop (Gj false M))=0:=(by rw[e];rfl);omega
  |true =>
   have hlt:Bd true (M.take (Gj true M))<Bd true M / 2+38:=by
    have:=Wl (inner:=true) (half:=Bd true M / 2) (m:=38) (l:=M) (sum:=0) (fun x hx=>(hs x hx).2 rfl) (by omega);rw[qa2]at this;exact this
   have ha:=Fp (inner:=true) (m:=38) (l:=M.take (Gj true M)) fun x hx=>(hs x (qbp hx)).2 rfl;have hb:=Fp (inner:=true) (m:=38) (l:=M.drop (Gj true M)) fun x hx=>(hs x (qcy hx)).2 rfl;refine⟨?_,?_,by omega,by omega⟩
   .show 2<=_
    rcases qbr (M.take (Gj true M)).length 2 with h5|h5
    .have:38*(M.take (Gj true M)).length<=38*1:=qb6 _ (by omega)
     omega
    .exact h5
   .show 2<=_
    rcases qbr (M.drop (Gj true M)).length 2 with h5|h5
    .have:38*(M.drop (Gj true M)).length<=38*1:=qb6 _ (by omega)
     omega
    .exact h5
def Bad(c:Ch)(e:Int)(m:Nat):Prop:=(e=8/\c.A.left ≠ -1)\/(e=7/\DF c.P<m)
theorem Bad.ne{c:Ch}{e:Int}{m:Nat}(h:Bad c e m):e≠0:=by
 rcases h with⟨h,_⟩|⟨h,_⟩ <;> omega
theorem Bad.back{c c1:Ch}{fr:Nat}{t g:List Nat}{e:Int}{m m':Nat}(h:Bad c1 e m)(h1:CI fr c c1 t g)(hm:m+t.length<=m'):Bad c e m':=by
 rcases h with⟨h,h2⟩|⟨h,h2⟩
 .exact .inl ⟨h,fun h3=>h2 (h1.left h3)⟩
 .exact .inr ⟨h,by have:=h1.free;omega⟩
theorem Bad.mono{c:Ch}{e:Int}{m m':Nat}(h:Bad c e m)(hm:m<=m'):Bad c e m':=h.imp id fun h=>⟨h.1,by omega⟩
structure On(fr:Nat)(c:Ch):Prop where
 on:c.A.on=true
 has:fr+c.P.length<=c.A.B.length
 few:c.P.length<=4096
theorem On.keep{fr:Nat}{c c1:Ch}{t g:List Nat}(h:On fr c)(h1:CI fr c c1 t g)(hon:c1.A.on=true):On fr c1 :=
 ⟨hon,by rw[h1.len,h1.blen];exact h.has,by rw[h1.len];exact h.few⟩
theorem Mq{fr:Nat}{c:Ch}{h:Nat}{i:Bool}{M:List It}{L:List Pr}{S:List Nat}(hp:Part (RD c.A fr) h i M L S)(ho:OkP L)(hh:Held c.P S)(hn:On fr c)(hm:Many i M)(ht:Bd i M<=503) :
  ∃t,CI fr c (wrC fr c i M).2 t []/\t.length<=1 /\
   (((wrC fr c i M).1=0/\t=[Ci c.P]/\On fr (wrC fr c i M).2/\Lies (RD (wrC fr c i M).2.A fr) h (Ci c.P) L (Ci c.P::S)/\L[0]?.map (·.1)=some (Gu M))\/Bad c (wrC fr c i M).1 1):=by
 have hM:Fits i M:=⟨hm.ne,fun x hx=>(hp.ok ho hh hn.few x hx).1,ht⟩
 rcases Ama hn.on hn.has hM with⟨h1,h2,h3⟩|⟨h1,h2⟩
 .exact⟨[],by rw[h2];exact CI.refl _ _,by simp,.inr (.inr ⟨h1,by omega⟩)⟩
 .refine⟨_,h1,by simp,?_⟩
  rcases h2 with⟨h3,h4,h5⟩|⟨h3,h4⟩
  .exact .inl ⟨h3,rfl,hn.keep h1 h4,⟨i,M,S,hp.frame (h1.rd hh),h5,rfl,hm,ht⟩,hp.key hm.ne⟩
  .exact .inr (.inl ⟨h3,h4⟩)
def okM(i:Bool)(M:List It):Bool:=decide (M.length<=1000) && (M.all (fun x=>decide (x.key.length<=65535) && (decide (x.val.length<=65535) && decide (x.page<9223372036854775808))) && (decide (M=[]) || (DN i M).all fun h=>decide (h≠[])))
def Fa(fr:Nat)(c:Ch)(i:Bool)(M:List It):Int × Ch × List It:=bif okM i M then JC fr c i M else(99,c,[])
theorem Amb(i:Bool)(x:It):4<=CK i x:=by
 cases i
 .simp only[CK,cond_false];omega
 .simp only[CK,cond_true];omega
theorem IY(i:Bool):∀l:List It,4*l.length<=Bd i l
 | []=>qak _
 |x::l=>by
  have:=Amb i x;have:=IY i l;rw[Da,qaw];omega
theorem Amc{fr:Nat}{c:Ch}{h:Nat}{i:Bool}{M:List It}{L:List Pr}{S:List Nat}(hp:Part (RD c.A fr) h i M L S)(ho:OkP L)(hh:Held c.P S)(hn:On fr c)(hm:M=[]\/Many i M)(hT:Bd i M<=667):Fa fr c i M=JC fr c i M:=by
 have hx:=hp.ok ho hh hn.few;have hge:=IY i M;unfold Fa
 have:okM i M=true:=by
  unfold okM;simp only[qao,qcf,qap,qb0];refine⟨by omega,fun x hx'=>?_,?_⟩
  .obtain⟨⟨h1,h2,h3,_⟩,_⟩:=hx x hx';omega
  .rcases hm with rfl|hm
   .exact .inl U
   .refine .inr fun a ha=>?_
    rcases Qr hm hT fun x h=>(hx x h).2 with⟨_,h2⟩|⟨a',b',_,h2,h3,h4,_⟩
    .rw[h2,qaa]at ha;rw[ha];exact hm.ne
    .rw[h2]at ha;simp only[qac,qam,or_false]at ha
     rcases ha with rfl|rfl
     .exact h3.ne
     .exact h4.ne
 rw[this];rfl
theorem Ajk(fr:Nat)(c:Ch)(i:Bool):JC fr c i []=(0,c,[]):=rfl
theorem Aeh{fr:Nat}{c:Ch}{i:Bool}{M:List It}(h:M≠[]):JC fr c i M=C4 fr i (DN i M) c []:=by
 unfold JC;rw[if_neg h]
theorem perm_front{a b c d:List Nat}:((a++b)++(c++d)).Perm ((a++c)++(b++d)):=by
 rw[qa1,qa1];refine qfg a ?_;rw[<-qa1,<-qa1];exact List.Perm.append_right d qcn
theorem Held.app{P S S':List Nat}(h:Held P S)(h':Held P S'):Held P (S++S'):=fun x hx=>(qau.1 hx).elim (h x) (h' x)
theorem Held.sub{P S S':List Nat}(h:Held P S)(hs:∀x∈S',x∈S):Held P S':=fun x hx=>h x (hs x hx)
structure Puts(fr h:Nat)(c:Ch)(M:List It)(L:List Pr)(S t:List Nat)(r:Int × Ch × List It):Prop where
 ok:r.1=0
 on:On fr r.2.1
 kids:∃S',Kids (Lies (RD r.2.1.A fr) h) r.2.2 L S'/\S'.Perm (S++t)/\Held r.2.1.P S'
 num:r.2.2.length<=2
 ne:M≠[]->r.2.2≠[]
theorem XJ{fr:Nat}{c:Ch}{h:Nat}{i:Bool}{M:List It}{L:List Pr}{S:List Nat}(hp:Part (RD c.A fr) h i M L S)(ho:OkP L)(hh:Held c.P S)(hn:On fr c)(hm:(M=[]/\h=0)\/Many i M)(hT:Bd i M<=667) :
  ∃t,CI fr c (Fa fr c i M).2.1 t []/\t.length<=2/\(Puts fr h c M L S t (Fa fr c i M)\/Bad c (Fa fr c i M).1 2):=by
 rw[Amc hp ho hh hn (hm.imp And.left id) hT]
 rcases hm with⟨rfl,rfl⟩|hm
 .obtain⟨rfl,he,rfl⟩:=hp
  have hL:L=[]:=by
   cases L with
   |nil=>rfl
   |cons _ _=>cases he
  subst hL;rw[Ajk];exact⟨[],CI.refl _ _,by simp,.inl ⟨rfl,hn,⟨[],⟨rfl,rfl⟩,by simp,fun x hx=>by cases hx⟩,by simp,fun h=>absurd rfl h⟩⟩
 .rw[Aeh hm.ne];have hx:=hp.ok ho hh hn.few
  rcases Qr hm hT fun x h=>(hx x h).2 with⟨h1,h2⟩|⟨a,b,rfl,h2,h3,h4,h5,h6⟩
  .rw[h2];obtain⟨t,w1,w2,w3⟩:=Mq hp ho hh hn hm h1;refine⟨t,?_,by omega,?_⟩
   .unfold C4
    split
    .exact w1
    .exact w1
   .rcases w3 with⟨h7,rfl,h8,h9,h10⟩|h7
    .left;unfold C4;rw[if_pos h7];refine⟨rfl,h8,⟨Ci c.P::S,?_,?_,?_⟩,by simp[C4],fun _=>by simp[C4]⟩
     .show Kids _ [_] _ _;exact⟨L,[],Ci c.P::S,[],by simp,by simp,h9,h10,rfl,rfl,rfl⟩
     .exact(qcn (l₁:=S) (l₂:=[Ci c.P])).symm
     .exact(w1.held.app (hh.keep w1))
    .right;unfold C4;rw[if_neg h7.ne];exact h7.mono (by omega)
  .rw[h2];obtain⟨La,Lb,Sa,Sb,rfl,rfl,pa,pb⟩:=hp.append;have hoa:OkP La:=fun p hp=>ho p (qa5 _ hp);have hob:OkP Lb:=fun p hp=>ho p (qax _ hp);have hha:Held c.P Sa:=hh.sub fun x hx=>qa5 _ hx;have hhb:Held c.P Sb:=hh.sub fun x hx=>qax _ hx;obtain⟨t,w1,w2,w3⟩:=Mq pa hoa hha hn h3 h5
   rcases w3 with⟨h7,rfl,h8,h9,h10⟩|h7
   .obtain⟨t',v1,v2,v3⟩:=Mq (pb.frame (w1.rd hhb)) hob (hhb.keep w1) h8 h4 h6;have hCI:=w1.trans v1;refine⟨[Ci c.P]++t',?_,?_,?_⟩
    .unfold C4;rw[if_pos h7];unfold C4
     split
     .exact hCI
     .exact hCI
    .rw[qan];omega
    .rcases v3 with⟨g7,rfl,g8,g9,g10⟩|g7
     .left;unfold C4;rw[if_pos h7];unfold C4;rw[if_pos g7];refine⟨rfl,g8,⟨(Ci c.P::Sa)++(Ci (wrC fr c i a).2.P::Sb),?_,?_,?_⟩,by simp[C4],fun _=>by simp[C4]⟩
      .show Kids _ ([_,_]) _ _;refine⟨La,Lb,_,_,rfl,rfl,h9.frame (v1.rd (w1.held.app (hha.keep w1))),h10,rfl,⟨Lb,[],_,[],by simp,by simp,g9,g10,rfl,rfl,rfl⟩⟩
      .show(([Ci c.P]++Sa)++([Ci (wrC fr c i a).2.P]++Sb)).Perm _;exact perm_front.trans qcn
      .exact((w1.held.app (hha.keep w1)).keep v1).app (v1.held.app ((hhb.keep w1).keep v1))
     .right;unfold C4;rw[if_pos h7];unfold C4;rw[if_neg g7.ne];exact g7.back w1 (by simp)
   .refine⟨t,?_,by omega,.inr ?_⟩
    .unfold C4;rw[if_neg h7.ne];exact w1
    .unfold C4;rw[if_neg h7.ne];exact h7.mono (by omega)
def Cq(l:List It)(i:Nat):Nat:=(l[i]?.map (·.page)).getD 0
def IZ(inner:Bool)(kid:List It):Bool:=inner && decide (kid.length=1)
def Ja(i:Nat):Nat:=if i=0 then 1 else i - 1
def EF(fr:Nat)(c:Ch)(l:List It)(i depth:Nat)(inner:Bool)(kid:List It):Int × Ch × List It × Nat × Nat :=
 if IZ inner kid=true then
  (if l.length<=Ja i then(9,c,[],0,0)
   else match(Dr c.A fr c.P.length ((Cq l (Ja i):Nat):Int) ((depth+1:Nat):Int)).2 with
    |none=>((Dr c.A fr c.P.length ((Cq l (Ja i):Nat):Int) ((depth+1:Nat):Int)).1,c,[],0,0)
    |some (false,_)=>(9,rdC fr c (Cq l (Ja i)) (depth+1),[],0,0)
    |some (true,o)=>(0,rdC fr c (Cq l (Ja i)) (depth+1),if i=0 then kid++o else o++kid,i - 1,if i=0 then 2 else i+1))
 else(0,c,kid,i,i+1)
def CM(fr:Nat)(G:List It->List It)(key:Byt):Nat->Ch->Nat->Nat->Int × Ch × Bool × List It
 |0,c,_,_=>(9,c,false,[])
 |n+1,c,page,depth=>match(Dr c.A fr c.P.length (page:Int) (depth:Int)).2 with
  |none=>((Dr c.A fr c.P.length (page:Int) (depth:Int)).1,c,false,[])
  |some (false,l)=>(0,rdC fr c page depth,false,G l)
  |some (true,l) =>
   let r:=CM fr G key n (rdC fr c page depth) (Cq l (Cf l key)) (depth+1)
   if r.1≠0 then(r.1,r.2.1,true,[])else
   let s:=EF fr r.2.1 l (Cf l key) depth r.2.2.1 r.2.2.2
   if s.1≠0 then(s.1,s.2.1,true,[])else
   let q:=Fa fr s.2.1 r.2.2.1 s.2.2.1
   (q.1,q.2.1,true,l.take s.2.2.2.1++(q.2.2++l.drop s.2.2.2.2))
def Ef(fr:Nat)(c:Ch)(inner:Bool)(M:List It):Int × Ch × Int :=
 if IZ inner M=true then(0,c,(Cq M 0:Int))
 else if(Fa fr c inner M).1≠0 then((Fa fr c inner M).1,(Fa fr c inner M).2.1,-1)
 else if(Fa fr c inner M).2.2=[]then(0,(Fa fr c inner M).2.1,-1)
 else if 1<(Fa fr c inner M).2.2.length then
  ((wrC fr (Fa fr c inner M).2.1 true (Fa fr c inner M).2.2).1,(wrC fr (Fa fr c inner M).2.1 true (Fa fr c inner M).2.2).2,(Ci (Fa fr c inner M).2.1.P:Int))
 else(0,(Fa fr c inner M).2.1,(Cq (Fa fr c inner M).2.2 0:Int))
def DH(c:Ch)(e:Int):Ch:={ c with P:=(if e≠0 then c.tk else c.gn).foldl EE c.P }
def DG(fr:Nat)(A:Dev)(P:List Nat)(root:Int)(key:Byt)(G:List It->List It):Int × Int × Ch :=
 let ed:=if root = -1 then(0,⟨A,P,[],[]⟩,false,G [])else CM fr G key 18 ⟨A,P,[],[]⟩ root.toNat 0
 if ed.1≠0 then(ed.1,root,DH ed.2.1 ed.1)
 else
  let t:=Ef fr ed.2.1 ed.2.2.1 ed.2.2.2
  if t.1≠0 then(t.1,root,DH t.2.1 t.1)else(0,t.2.2,DH t.2.1 0)
def Lo(key val:Byt)(l:List It):List It :=
 if Fv l key=true then l.take (CJ l key)++([⟨key,val,0⟩]++l.drop (CJ l key+1))else l.take (CJ l key)++([⟨key,val,0⟩]++l.drop (CJ l key))
def KG(key:Byt)(l:List It):List It :=
 if Fv l key=true then l.take (CJ l key)++l.drop (CJ l key+1)else l
def JQ(fr:Nat)(A:Dev)(P:List Nat)(root:Int)(key val:Byt):Int × Int × Dev × List Nat :=
 if Ib P.length root≠0 then(1,root,A,P)
 else if Dh key.length val.length=true then
  ((DG fr A P root key (Lo key val)).1,(DG fr A P root key (Lo key val)).2.1,(DG fr A P root key (Lo key val)).2.2.A,(DG fr A P root key (Lo key val)).2.2.P)
 else(1,root,A,P)
def Hg(fr:Nat)(A:Dev)(P:List Nat)(root:Int)(key:Byt):Int × Int × Bool × Dev × List Nat :=
 if(Ol A fr P.length root key).1≠0 then((Ol A fr P.length root key).1,root,false,A,P)
 else if(Ol A fr P.length root key).2.isSome=false then(0,root,false,A,P)
 else((DG fr A P root key (KG key)).1,(DG fr A P root key (KG key)).2.1,decide ((DG fr A P root key (KG key)).1=0),(DG fr A P root key (KG key)).2.2.A,(DG fr A P root key (KG key)).2.2.P)
theorem Aei{w:World}{bp ba:Nat}{P:List Nat}(h:PgAt w bp ba P)(k:Nat)(hk:P.length<=k):Ret prog 94 #[ptr bp,.int .i64 (k:Int)] w fun v w'=>(∃e,v=.int .i64 e)/\PgAt w' bp ba P/\Ext [ba] w w':=by
 obtain⟨w0,rfl⟩:=qD w;have hh:Oj P (k:Int)=false:=by unfold Oj;simp;omega
 refine A6 (fn:=f94) func94 U [.pointer (some ⟨bp,0,none⟩),.int .i64 (k:Int)] U ?_;refine Ad (Ac U (qA (Aq (Ad (Am U (Ae U (Ai qB (Wj h (k:Int)) U ?_)))))));rintro v w ⟨rfl,rfl⟩;rw[hh];refine Ac U (qA (Ad (Ae U (Ba U U (qA (EA U (Ad (Ae U (Ac U ?_)))))))));refine qA (Ax (Ao (AG (v:=(.int _ _)) U U U ?_)));exact⟨⟨_,rfl⟩,h,.refl _ _⟩
theorem UU{w:World}{bp ba:Nat}{P:List Nat}(h:PgAt w bp ba P)(k:Nat):Ret prog 94 #[ptr bp,.int .i64 (k:Int)] w fun v w'=>(∃e,v=.int .i64 e)/\PgAt w' bp ba (EE P k)/\Ext [ba] w w':=by
 rcases qbr k P.length with hk|hk
 .exact XD h k hk
 .have:EE P k=P:=by
   have hn:P[k]?=none:=qbz hk;unfold EE;rw[hn,if_neg (by simp),if_neg (by simp)]
  rw[this];exact Aei h k hk
theorem Acb{w:World}{a:Option Addr}{n c t:Nat}{full:List Value}{l:List Nat}(h:OS a n c 1 full (l.map pv))(hb:∀x∈ent a t full,w.heap[x.1]?=some x.2):Rd w a 1 (fun k=>[pv k]) l :=
 OS.rd (by rw[Abe];exact h) hb (by simp) (by omega)
theorem XK{w:World}{bt bd bp ba fr bc:Nat}{c:Ch}{F:Mut}{L:List (Nat × Obj)}(X:Cx w bt bd bp ba fr bc c F L)(e:Int)(htk:c.tk.length<=1000000)(hgn:c.gn.length<=1000000) :
  Ret prog 129 #[ptr bc,.int .i64 e] w fun v w'=>v=.tuple #[]/\Cx w' bt bd bp ba fr bc (DH c e) F L/\Grown (TM F ba bt bp L) (TM F ba bt bp L) w w':=by
 obtain⟨w0,rfl⟩:=qD w;obtain⟨T,ta,tc,tf,ga,gc,gf,rfl,Ot,Og⟩:=X;have H:=T.ctx;have Rt:=Acb Ot (fun y hy=>T.blk y (qai _ (qa5 _ hy)));have Rg:=Acb Og (fun y hy=>T.blk y (qai _ (qax _ hy)));refine A6 (fn:=f129) func129 U [.pointer (some ⟨bc,0,none⟩),.int .i64 e] U ?_;refine Aq (Ad (Ae U (Ba U U (qA (Au _ U ?_ ?_)))))
 .intro h1;replace h1:=Bu h1;refine Aq (Ad (Am U (A8 U (Af Sj U (AH IJ U H at0 U (AP FB U (Ae U (qA (AE ?_)))))))));refine B7 536838176 (α:=Nat) (fun i=>[(15,.int .i64 (i:Int))]) (fun i w'=>i<=c.tk.length/\Tx w' bt bd bp ba fr c.A ((c.tk.take i).foldl EE c.P) F (CL bt bc ta c.tk.length tc tf ga c.gn.length gc gf)/\Grown (TM F ba bt bp (CL bt bc ta c.tk.length tc tf ga c.gn.length gc gf)) (TM F ba bt bp (CL bt bc ta c.tk.length tc tf ga c.gn.length gc gf)) w0 w') (fun i=>c.tk.length - i) 0 U ?_ ?_ ?_
  .exact⟨rfl,trivial⟩
  .exact⟨qak _,T,.call0 (.refl _ _)⟩
  .rintro i j w ⟨hi,T1,G1⟩;have H:=T1.ctx;have R1:=Acb Ot (fun y hy=>T1.blk y (qai _ (qa5 _ hy)));refine Ad (Bn U U (qA (Aq (Au _ U ?_ ?_))))
   .intro h2;replace h2:=AV h2;obtain⟨k,hk⟩:=AO (l:=c.tk) (i:=i);refine Ap (Aa (Aq (AE (Ad (AY R1 FB Hv U U (hn:=by rfl) ?_)))));refine Be DW U (R1.fld hk U (j:=0) U) (Ac U (qA (Av (Am U (A8 U (Af JL U (AH JK U H at0 U (A8 U (Af Ld U (Be K3 U (Ar T1.tr (0+1)) ?_))))))))));refine Ae U (Ai qB (UU T1.pg k) U ?_);rintro v w2 ⟨⟨ev,rfl⟩,hp,hx⟩;obtain⟨T2,G2⟩:=T1.page hp hx;refine Ab (AF (Aa (Av (A7 U U ?_))));refine Ae U (qA ?_);exact⟨i+1,rfl,⟨rfl,trivial⟩,⟨by omega,by rw[Bp hk,qdp];exact T2,G1.trans G2⟩,by omega⟩
   .intro h2;replace h2:=AW h2;have hii:i=c.tk.length:=by omega
    subst hii;rw[qbe]at T1;refine B3 (Ay (Ay (Bb (Aa (Ax (Ao (Agh U U ?_)))))));refine⟨rfl,⟨?_,ta,tc,tf,ga,gc,gf,rfl,Ot,Og⟩,G1⟩;unfold DH;rw[if_pos h1];exact T1
 .intro h1;replace h1:=Bv h1;refine Ap (Aa (Ad (Am U (A8 U (Af Sk U (AH IJ U H at0 U (AP FB U (Ae U (qA (AE ?_))))))))));refine B7 281457796841600 (α:=Nat) (fun i=>[(34,.int .i64 (i:Int))]) (fun i w'=>i<=c.gn.length/\Tx w' bt bd bp ba fr c.A ((c.gn.take i).foldl EE c.P) F (CL bt bc ta c.tk.length tc tf ga c.gn.length gc gf)/\Grown (TM F ba bt bp (CL bt bc ta c.tk.length tc tf ga c.gn.length gc gf)) (TM F ba bt bp (CL bt bc ta c.tk.length tc tf ga c.gn.length gc gf)) w0 w') (fun i=>c.gn.length - i) 0 U ?_ ?_ ?_
  .exact⟨rfl,trivial⟩
  .exact⟨qak _,T,.call0 (.refl _ _)⟩
  .rintro i j w ⟨hi,T1,G1⟩;have H:=T1.ctx;have R1:=Acb Og (fun y hy=>T1.blk y (qai _ (qax _ hy)));refine Ad (Bn U U (qA (Aq (Au _ U ?_ ?_))))
   .intro h2;replace h2:=AV h2;obtain⟨k,hk⟩:=AO (l:=c.gn) (i:=i);refine Ap (Aa (Aq (AE (Ad (AY R1 FB Hv U U (hn:=by rfl) ?_)))));refine Be DW U (R1.fld hk U (j:=0) U) (Ac U (qA (Av (Am U (A8 U (Af JL U (AH JK U H at0 U (A8 U (Af Ld U (Be K3 U (Ar T1.tr (0+1)) ?_))))))))));refine Ae U (Ai qB (UU T1.pg k) U ?_);rintro v w2 ⟨⟨ev,rfl⟩,hp,hx⟩;obtain⟨T2,G2⟩:=T1.page hp hx;refine Ab (AF (Aa (Av (A7 U U ?_))));refine Ae U (qA ?_);exact⟨i+1,rfl,⟨rfl,trivial⟩,⟨by omega,by rw[Bp hk,qdp];exact T2,G1.trans G2⟩,by omega⟩
   .intro h2;replace h2:=AW h2;have hii:i=c.gn.length:=by omega
    subst hii;rw[qbe]at T1;refine B3 (Ay (Ay (Bb (Ih U U ?_))));refine⟨rfl,⟨?_,ta,tc,tf,ga,gc,gf,rfl,Ot,Og⟩,G1⟩;unfold DH;rw[if_neg (by simpa using h1)];exact T1
theorem Grown.weak{M M' M'':Mut}{w w':World}(t:Grown M M' w w')(h:∀x,M'' x->M' x):Grown M M'' w w':=⟨t.1,fun x hx=>t.2 x (h x hx)⟩
theorem Grown.nil{M M':Mut}{w w':World}(t:Grown (MY M []) M' w w'):Grown M M' w w':=by
 obtain⟨⟨S,hS,hx⟩,g⟩:=t;exact⟨⟨S,fun x h=>MY.nil x (hS x h),hx⟩,fun x h=>(g x h).imp (MY.nil x) id⟩
structure Fr(w0:World)(Z M0:Mut)(w:World)(bt bd bp ba fr bc:Nat)(c:Ch)(F:Mut)(L Y:List (Nat × Obj)):Prop where
 X:Cx w bt bd bp ba fr bc c F L
 O:Fo w (MZ (TM F ba bt bp L) Z) Y
 GT:Grown M0 (TM F ba bt bp L) w0 w
 GA:Grown (MZ M0 Z) (MY (MZ (TM F ba bt bp L) Z) Y) w0 w
 yo:∀y∈Y.map (·.1),w0.heap.size<=y
 sz:w0.heap.size<=w.heap.size
 hZ:∀x,Z x->x<w0.heap.size
section
variable {w0 w w':World}{Z M0:Mut}{bt bd bp ba fr bc:Nat}{c c':Ch}{F F':Mut}{L L' Y Y':List (Nat × Obj)}
theorem Fr.start(X:Cx w bt bd bp ba fr bc c F L)(hZ:∀x,Z x->x<w.heap.size):Fr w Z (TM F ba bt bp L) w bt bd bp ba fr bc c F L [] :=
 ⟨X,Fo.nil,.call0 (.refl _ _),(Grown.call0 (.refl _ _)).weak MY.nil,(fun y h=>by cases h),qae _,hZ⟩
theorem Fr.lt(E:Fr w0 Z M0 w bt bd bp ba fr bc c F L Y):∀x,MZ (TM F ba bt bp L) Z x->x<w.heap.size:=fun x h=>h.elim (E.X.T.mlt x) fun h=>qas (E.hZ x h) E.sz
theorem Fr.mylt(E:Fr w0 Z M0 w bt bd bp ba fr bc c F L Y):∀x,MY (MZ (TM F ba bt bp L) Z) Y x->x<w.heap.size:=E.O.lt E.lt
theorem Fr.zlt(E:Fr w0 Z M0 w bt bd bp ba fr bc c F L Y):∀x,MY Z Y x->x<w.heap.size:=fun x h=>E.mylt x (h.elim (fun h => .inl (.inr h)) .inr)
theorem Fr.fresh(E:Fr w0 Z M0 w bt bd bp ba fr bc c F L Y):∀x,MY (MZ (TM F' ba bt bp L') Z) Y x->MZ (TM F' ba bt bp L') (Old w) x:=fun x h=>by
 rcases h with(h|h)|h
 .exact .inl h
 .exact .inr (E.lt x (.inr h))
 .exact .inr (E.mylt x (.inr h))
theorem Fr.own(E:Fr w0 Z M0 w bt bd bp ba fr bc c F L Y)(H:Ctx w (Y.map (·.1)) w' Y'):Fr w0 Z M0 w' bt bd bp ba fr bc c F L Y'/\Grown (MY (MZ (TM F ba bt bp L) Z) Y) (MY (MZ (TM F ba bt bp L) Z) Y') w w':=by
 obtain⟨O',g⟩:=E.O.own E.lt H;exact⟨⟨E.X.side (E.O.weak fun _ h => .inl h) H.ext,O',E.GT.side H.ext E.yo,E.GA.trans g,Om E.yo E.sz H,qav E.sz H.ext.size,E.hZ⟩,g⟩
theorem Fr.call(E:Fr w0 Z M0 w bt bd bp ba fr bc c F L Y)(X':Cx w' bt bd bp ba fr bc c' F' L')(t:Grown (TM F ba bt bp L) (TM F' ba bt bp L') w w'):Fr w0 Z M0 w' bt bd bp ba fr bc c' F' L' Y/\Grown (MY (MZ (TM F ba bt bp L) Z) Y) (MY (MZ (TM F' ba bt bp L') Z) Y) w w':=by
 obtain⟨O',g⟩:=E.O.call (t.or Z);obtain⟨S,_,hx⟩:=t.1;exact⟨⟨X',O',E.GT.trans t,E.GA.trans g,E.yo,qav E.sz hx.size,E.hZ⟩,g⟩
theorem Fr.call0(E:Fr w0 Z M0 w bt bd bp ba fr bc c F L Y)(hx:Ext [] w w'):Fr w0 Z M0 w' bt bd bp ba fr bc c F L Y/\Grown (MY (MZ (TM F ba bt bp L) Z) Y) (MY (MZ (TM F ba bt bp L) Z) Y) w w' :=
 E.call (E.X.side Fo.nil hx) (.call0 hx)
end
def DoOk(f:Nat)(cl:List Value)(G:List It->List It)(w:World)(M:Mut):Prop :=
 ∀(w':World) (M':Mut),Grown M M' w w'->(∀x,M' x->x<w'.heap.size)->∀(a:Option Addr) (n c:Nat) (l:List It),Its w' M' a n c l->n<=100000 ->
  Ret prog f (Value.slice a n c::cl).toArray w' fun v w''=>∃a' c',v=.slice a' (G l).length c'/\Its w'' M' a' (G l).length c' (G l)/\Ext [] w' w''
theorem DoOk.keep{f:Nat}{cl:List Value}{G:List It->List It}{w w':World}{M M':Mut}(h:DoOk f cl G w M)(t:Grown M M' w w'):DoOk f cl G w' M':=fun w2 M2 t2=>h w2 M2 (t.trans t2)
theorem wrC_gn{fr:Nat}{c:Ch}{i:Bool}{M:List It}:(wrC fr c i M).2.gn=c.gn:=by
 unfold wrC
 split
 .rfl
 .split <;> rfl
theorem XL{fr:Nat}{i:Bool}{m:Nat}:∀{Hs:List (List It)} {c:Ch} {acc:List It},(C4 fr i Hs c acc).2.1.tk.length<=c.tk.length+Hs.length/\(C4 fr i Hs c acc).2.1.gn=c.gn/\(Few c.A m->Few (C4 fr i Hs c acc).2.1.A (m+Hs.length))/\(C4 fr i Hs c acc).2.2.length<=acc.length+Hs.length
 | [],c,acc=>⟨qae _,rfl,fun h=>h,qae _⟩
 |h::Hs,c,acc=>by
  have h1:=SW (fr:=fr) (c:=c) (inner:=i) (M:=h);have h2:=wrC_gn (fr:=fr) (c:=c) (i:=i) (M:=h);unfold C4
  split
  .obtain⟨a1,a2,a3,a4⟩:=XL (fr:=fr) (i:=i) (m:=m+1) (Hs:=Hs) (c:=(wrC fr c i h).2) (acc:=acc++[⟨Gu h,[],Ci c.P⟩]);refine⟨by rw[qaw];omega,a2.trans h2,fun hf=>(a3 (QL hf)).mono (by rw[qaw];omega),?_⟩;rw[qan,qbu]at a4;rw[qaw];omega
  .exact⟨by rw[qaw];dsimp only;omega,h2,fun hf=>(QL hf).mono (by rw[qaw];omega),by simp⟩
theorem Lp{fr:Nat}{c:Ch}{i:Bool}{M:List It}{m:Nat}:(Fa fr c i M).2.1.tk.length<=c.tk.length+2/\(Fa fr c i M).2.1.gn=c.gn/\(Few c.A m->Few (Fa fr c i M).2.1.A (m+2))/\(Fa fr c i M).2.2.length<=2:=by
 unfold Fa
 cases okM i M with
 |false=>exact⟨qcp _ _,rfl,fun h=>h.mono (by omega),qak _⟩
 |true =>
  show(JC fr c i M).2.1.tk.length<=_/\(JC fr c i M).2.1.gn=_/\(Few c.A m->Few (JC fr c i M).2.1.A _)/\(JC fr c i M).2.2.length<=2;unfold JC
  split
  .exact⟨qcp _ _,rfl,fun h=>h.mono (by omega),qak _⟩
  .have h2:=SY i M;obtain⟨a1,a2,a3,a4⟩:=XL (fr:=fr) (i:=i) (m:=m) (Hs:=DN i M) (c:=c) (acc:=[]);rw[qby]at a4;exact⟨by omega,a2,fun h=>(a3 h).mono (by omega),by omega⟩
theorem Ik{fr:Nat}{c:Ch}{p d:Nat}:(rdC fr c p d).tk=c.tk/\(rdC fr c p d).gn.length<=c.gn.length+1/\(rdC fr c p d).A=c.A/\(rdC fr c p d).P=c.P:=by
 unfold rdC
 split
 .exact⟨rfl,by simp,rfl,rfl⟩
 .exact⟨rfl,qdd _,rfl,rfl⟩
theorem Pz{fr:Nat}{c:Ch}{l:List It}{i d:Nat}{inner:Bool}{kid:List It}:(EF fr c l i d inner kid).2.1.tk=c.tk/\(EF fr c l i d inner kid).2.1.gn.length<=c.gn.length+1/\(EF fr c l i d inner kid).2.1.A=c.A:=by
 unfold EF
 split
 .split
  .exact⟨rfl,qdd _,rfl⟩
  .split
   .exact⟨rfl,qdd _,rfl⟩
   .exact⟨Ik.1,Ik.2.1,Ik.2.2.1⟩
   .exact⟨Ik.1,Ik.2.1,Ik.2.2.1⟩
 .exact⟨rfl,qdd _,rfl⟩
theorem Mr{fr:Nat}{G:List It->List It}{key:Byt}{m:Nat}:∀{n:Nat} {c:Ch} {p d:Nat},(CM fr G key n c p d).2.1.tk.length<=c.tk.length+2*n/\(CM fr G key n c p d).2.1.gn.length<=c.gn.length+2*n/\(Few c.A m->Few (CM fr G key n c p d).2.1.A (m+2*n))
 |0,c,p,d=>⟨qae _,qae _,fun h=>h⟩
 |n+1,c,p,d=>by
  have hr:=Ik (fr:=fr) (c:=c) (p:=p) (d:=d);unfold CM
  split
  .exact⟨qcp _ _,qcp _ _,fun h=>h.mono (by omega)⟩
  .exact⟨by rw[hr.1];omega,by have:=hr.2.1;show(rdC fr c p d).gn.length<=_;omega,fun h=>by show Few (rdC fr c p d).A _;rw[hr.2.2.1];exact h.mono (by omega)⟩
  .rename_i l _
   obtain⟨a1,a2,a3⟩:=Mr (fr:=fr) (G:=G) (key:=key) (m:=m) (n:=n) (c:=rdC fr c p d) (p:=Cq l (Cf l key)) (d:=d+1);rw[hr.1]at a1;rw[hr.2.2.1]at a3;have h2:=hr.2.1;dsimp only
   split
   .exact⟨by dsimp only;omega,by dsimp only;omega,fun h=>(a3 h).mono (by omega)⟩
   .obtain⟨b1,b2,b3⟩:=Pz (fr:=fr) (c:=(CM fr G key n (rdC fr c p d) (Cq l (Cf l key)) (d+1)).2.1) (l:=l) (i:=Cf l key) (d:=d) (inner:=(CM fr G key n (rdC fr c p d) (Cq l (Cf l key)) (d+1)).2.2.1) (kid:=(CM fr G key n (rdC fr c p d) (Cq l (Cf l key)) (d+1)).2.2.2)
    split
    .exact⟨by rw[b1];omega,by dsimp only;omega,fun h=>by rw[b3];exact(a3 h).mono (by omega)⟩
    .obtain⟨q1,q2,q3,_⟩:=Lp (fr:=fr) (c:=(EF fr (CM fr G key n (rdC fr c p d) (Cq l (Cf l key)) (d+1)).2.1 l (Cf l key) d (CM fr G key n (rdC fr c p d) (Cq l (Cf l key)) (d+1)).2.2.1 (CM fr G key n (rdC fr c p d) (Cq l (Cf l key)) (d+1)).2.2.2).2.1)
      (i:=(CM fr G key n (rdC fr c p d) (Cq l (Cf l key)) (d+1)).2.2.1) (M:=(EF fr (CM fr G key n (rdC fr c p d) (Cq l (Cf l key)) (d+1)).2.1 l (Cf l key) d (CM fr G key n (rdC fr c p d) (Cq l (Cf l key)) (d+1)).2.2.1 (CM fr G key n (rdC fr c p d) (Cq l (Cf l key)) (d+1)).2.2.2).2.2.1) (m:=m+2*n)
     rw[b1]at q1;rw[b3]at q3;exact⟨by dsimp only;omega,by dsimp only;rw[q2];omega,fun h=>(q3 (a3 h)).mono (by omega)⟩
theorem Ajl{i:Bool}{M:List It}(h:okM i M=true):M.length<=1000/\(∀x∈M,x.key.length<=65535/\x.val.length<=65535)/\(∀x∈M,x.page<9223372036854775808)/\(M≠[]->∀h∈DN i M,h≠[]):=by
 unfold okM at h;simp only[qao,qcf,qap,qb0]at h;obtain⟨h1,h2,h3⟩:=h;exact⟨h1,fun x hx=>⟨(h2 x hx).1,(h2 x hx).2.1⟩,fun x hx=>(h2 x hx).2.2,fun hM a ha=>h3.elim (fun h=>absurd h hM) fun h=>h a ha⟩
theorem Acc{fr:Nat}{c:Ch}{i:Bool}{M:List It}(h:(Fa fr c i M).1≠99):okM i M=true/\Fa fr c i M=JC fr c i M:=by
 unfold Fa at h |-
 cases ho:okM i M with
 |false=>rw[ho]at h;exact absurd rfl h
 |true=>exact⟨rfl,rfl⟩
end Go.Proofs.YtcpgbcabmcbclaaGreatDoor
