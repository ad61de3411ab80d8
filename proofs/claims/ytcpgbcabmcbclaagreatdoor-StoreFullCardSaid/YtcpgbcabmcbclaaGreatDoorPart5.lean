/- Part 5 of the proof. -/
import Derived.Test.YtcpgbcabmcbclaaGreatDoorPart4
set_option maxRecDepth 20000
set_option maxHeartbeats 4000000
namespace Go.Proofs.YtcpgbcabmcbclaaGreatDoor
open Go.GV Go.Proofs.Tryz
attribute [local irreducible] A7 W Wq Wt
structure Own(w0 w:World)(bd:Nat)(A:Dev)(F:Nat->Prop):Prop where
 ext:Ext [] w0 w
 dev:DevAt w bd A F
 own:∀x,F x->w0.heap.size<=x/\x<w.heap.size
def Grown(F F':Nat->Prop)(w w':World):Prop:=Turn F w w'/\∀x,F' x->F x\/w.heap.size<=x
theorem Turn.new{F:Nat->Prop}{w0 w w':World}(h:Turn F w w')(hx:Ext [] w0 w)(hF:∀x,F x->w0.heap.size<=x):Ext [] w0 w' :=
 let ⟨_,hS,h⟩:=h;hx.then h fun x hx => .inr (hF x (hS x hx))
theorem Own.grow{w0 w w':World}{bd:Nat}{A A':Dev}{F:Nat->Prop}(O:Own w0 w bd A F)(h:DevAt w' bd A' (grow F w w'))(t:Turn F w w'):Own w0 w' bd A' (grow F w w')/\Grown F (grow F w w') w w' :=
 ⟨⟨t.new O.ext fun x h=>(O.own x h).1,h,fun x hx=>by
  have h1:=t.size;have h2:=O.ext.size
  rcases hx with hx|hx
  .have:=O.own x hx;omega
  .omega⟩,t,fun x hx=>hx.elim .inl fun h => .inr h.1⟩
theorem Own.same{w0 w w':World}{bd:Nat}{A A':Dev}{F:Nat->Prop}(O:Own w0 w bd A F)(h:DevAt w' bd A' F)(t:Turn F w w'):Own w0 w' bd A' F/\Grown F F w w' :=
 ⟨⟨t.new O.ext fun x h=>(O.own x h).1,h,fun x hx=>by have h1:=t.size;have:=O.own x hx;omega⟩,t,fun x hx => .inl hx⟩
theorem Own.call{w0 w w':World}{bd:Nat}{A:Dev}{F:Nat->Prop}(O:Own w0 w bd A F)(hx:Ext [] w w'):Own w0 w' bd A F :=
 ⟨O.ext.trans hx,O.dev.keep0 hx,fun x h=>by have:=O.own x h;have:=hx.size;omega⟩
def Rdx(w:World)(F:Nat->Prop)(a:Option Addr)(l:Byt):Prop:=Rd w a 1 B8 l/\(l=[]\/¬F (adr a).block)
theorem Rd.lt8{w:World}{a:Option Addr}{l:Byt}(R:Rd w a 1 B8 l):l=[]\/(adr a).block<w.heap.size:=by
 cases l with
 |nil=>exact .inl rfl
 |cons x l =>
  have h9:=World.block_lt_of_cell? w ⟨(adr a).block,_,none⟩ (R.cell 0 x rfl 0 _ rfl (by decide));exact .inr h9
theorem Rdx.turn{w w':World}{F F':Nat->Prop}{a:Option Addr}{l:Byt}(h:Rdx w F a l)(t:Grown F F' w w'):Rdx w' F' a l:=by
 obtain⟨R,hn⟩:=h
 rcases hn with rfl|hn
 .exact⟨Rd.nil,.inl rfl⟩
 .obtain⟨⟨S,hS,hx⟩,hF⟩:=t;refine⟨R.ext hx fun h=>hn (hS _ h),?_⟩
  rcases Rd.lt8 R with h1|h1
  .exact .inl h1
  .exact .inr fun h=>(hF _ h).elim hn fun h=>by omega
theorem Rdx.call{w w':World}{F:Nat->Prop}{a:Option Addr}{l:Byt}(h:Rdx w F a l)(hx:Ext [] w w'):Rdx w' F a l:=⟨h.1.ext0 hx,h.2⟩
theorem Own.loaded{w0 w w':World}{bd:Nat}{A:Dev}{F:Nat->Prop}{a:Option Addr}{l:Byt}(O:Own w0 w bd A F)(R:Rd w' a 1 B8 l)(hn:l=[]\/w.heap.size<=(adr a).block):Rdx w' F a l :=
 ⟨R,hn.imp id fun h hF=>by have:=O.own _ hF;omega⟩
theorem Own.old{w0 w:World}{bd:Nat}{A:Dev}{F:Nat->Prop}{a:Option Addr}{l:Byt}(O:Own w0 w bd A F)(R:Rd w0 a 1 B8 l):Rdx w F a l :=
 ⟨R.ext0 O.ext,(Rd.lt8 R).imp id fun h hF=>by have:=O.own _ hF;omega⟩
theorem Al6{w0 w:World}{bd:Nat}{A:Dev}{F:Nat->Prop}(O:Own w0 w bd A F)(a:Option Addr)(c n:Nat)(picks:List Int)(R:Rd w a 1 (fun x:Int=>[.int .i64 x]) picks)(hn:picks.length=n)(hFa:picks=[]\/¬F (adr a).block)(hi64:∀x∈picks,-9223372036854775808<=x/\x<=9223372036854775807){mx:Nat}(hfew:Few A mx)(hm:n<=9223372036854775000:=by decide)(hc:n<=c:=by decide)(hmx:mx<=1000000000000:=by decide):
  Ret prog 18 #[ptr bd,.slice a n c] w fun v w'=>v=.int .i64 (onE A)/\Own w0 w' bd (onD A picks) F/\Grown F F w w' :=
 (Ain a c n picks R hn hm hc hFa hi64 hfew hmx O.dev).mono fun _ _ ⟨hv,hd,ht⟩=>⟨hv,O.same hd ht⟩
theorem Aio{w0 w:World}{bd:Nat}{A:Dev}{F:Nat->Prop}(O:Own w0 w bd A F) :
  Ret prog 17 #[ptr bd] w fun v w'=>v=.int .i64 (bif A.on then 0 else 8)/\Own w0 w' bd (LC A) F/\Grown F F w w' :=
 (Aik O.dev).mono fun _ _ ⟨hv,hd,ht⟩=>⟨hv,O.same hd ht⟩
theorem Zy{n:Int}(w:World)(h1:1<=n:=by decide)(h2:n<=4096:=by decide):Ret prog 9 #[.int .i64 n] w fun v w'=>∃bd F,v=.tuple #[ptr bd,.int .i64 0]/\Own w w' bd (EB n.toNat) F :=
 (Ail n w).mono fun _ _ ⟨hx,h⟩=>by
  rcases h with⟨he,_⟩|⟨_,_,_,bd,rfl,hd⟩
  .rw[Afp,qai (show ¬n<1 by omega),qai (show ¬4096<n by omega)]at he;cases he
  .exact⟨bd,_,rfl,hx,hd,fun x h=>h⟩
abbrev Mut:=Nat->Prop
def Old(w:World):Mut:=fun x=>x<w.heap.size
theorem UO{w:World}{α:Type}{a:Option Addr}{s:Nat}{enc:α->List Value}{l:List α}(R:Rd w a s enc l)(he:∀x∈l,(enc x).length=s)(hs:0<s:=by decide):l=[]\/(adr a).block<w.heap.size:=by
 cases l with
 |nil=>exact .inl rfl
 |cons x l =>
  have h1:=he x (qae ..);obtain⟨v,hv⟩:=AR (l:=enc x) (i:=0);exact .inr (World.block_lt_of_cell? w ⟨(adr a).block,_,none⟩ (R.cell 0 x U 0 v hv (by omega)))
theorem Afv(a:Option Addr)(c i s:Nat):(adr (Em a c i s)).block=(adr a).block:=by
 unfold Em;split
 .rfl
 .cases a with
  |none=>rfl
  |some p =>
   obtain⟨b,o,sp⟩:=p;show(adr (some (Addr.add ⟨b,o,sp⟩ (i*s)))).block=b;unfold Addr.add
   by_cases h:i*s=0 <;> simp[h,adr]
section
variable {w w' w0:World}{M M':Mut}{a:Option Addr}{l:Byt}
theorem Rdx.fresh(R:Rd w' a 1 B8 l)(h:l=[]\/w.heap.size<=(adr a).block):Rdx w' (Old w) a l:=⟨R,h.imp id fun h h2=>by unfold Old at h2;omega⟩
theorem Rdx.weak(h:Rdx w M a l)(hM:∀x,M' x->M x):Rdx w M' a l:=⟨h.1,h.2.imp id fun h h2=>h (hM _ h2)⟩
theorem Rdx.past{w1 w2:World}{S:List Nat}(X:Rdx w (Old w1) a l)(he:Ext S w w2)(hS:∀x∈S,x<w1.heap.size):Rdx w2 (Old w1) a l:=by
 obtain⟨R,hn⟩:=X
 rcases hn with rfl|hn
 .exact⟨Rd.nil,.inl rfl⟩
 .exact⟨R.ext he fun h=>hn (hS _ h),.inr hn⟩
theorem Rdx.nil:Rdx w M none []:=⟨Rd.nil,.inl rfl⟩
end
structure Im where
 ka:Option Addr
 kc:Nat
 va:Option Addr
 vc:Nat
 it:It
def Im.enc(m:Im):List Value:=[.slice m.ka m.it.key.length m.kc,.slice m.va m.it.val.length m.vc,.int .i64 (m.it.page:Int)]
theorem Im.oneE(m:Im):∀v∈m.enc,Bg v=true:=fun v hv=>by
 simp only[Im.enc,qab,qaj,or_false]at hv
 rcases hv with rfl|rfl|rfl <;> rfl
structure Im.Ok(w:World)(M:Mut)(m:Im):Prop where
 k:Rdx w M m.ka m.it.key
 v:Rdx w M m.va m.it.val
 kc:m.it.key.length<=m.kc
 vc:m.it.val.length<=m.vc
structure Its(w:World)(M:Mut)(a:Option Addr)(n c:Nat)(L:List It):Prop where
 ex:∃ms:List Im,Rd w a 3 Im.enc ms/\(ms=[]\/¬M (adr a).block)/\ms.map (·.it)=L/\∀m∈ms,m.Ok w M
 num:n=L.length
 le:n<=c
section
variable {w w' w0:World}{M M':Mut}{a:Option Addr}{n c:Nat}{L:List It}{m:Im}
theorem Im.Ok.turn(h:m.Ok w M)(t:Grown M M' w w'):m.Ok w' M':=⟨h.k.turn t,h.v.turn t,h.kc,h.vc⟩
theorem Im.Ok.call(h:m.Ok w M)(hx:Ext [] w w'):m.Ok w' M:=⟨h.k.call hx,h.v.call hx,h.kc,h.vc⟩
theorem Im.Ok.weak(h:m.Ok w M)(hM:∀x,M' x->M x):m.Ok w M':=⟨h.k.weak hM,h.v.weak hM,h.kc,h.vc⟩
theorem Its.nil:Its w M none 0 0 []:=⟨⟨[],Rd.nil,.inl rfl,rfl,fun m h=>by cases h⟩,rfl,qaf _⟩
theorem Its.turn(h:Its w M a n c L)(t:Grown M M' w w'):Its w' M' a n c L:=by
 obtain⟨ms,R,hs,hl,hm⟩:=h.ex;refine⟨⟨ms,?_,?_,hl,fun m hx=>(hm m hx).turn t⟩,h.num,h.le⟩
 .rcases hs with rfl|hs
  .exact Rd.nil
  .obtain⟨⟨S,hS,hx⟩,_⟩:=t;exact R.ext hx fun h=>hs (hS _ h)
 .rcases hs with rfl|hs
  .exact .inl U
  .rcases UO R (fun x _=>rfl)with h0|h0
   .exact .inl h0
   .exact .inr fun h5=>(t.2 _ h5).elim hs fun h6=>by omega
theorem Its.call(h:Its w M a n c L)(hx:Ext [] w w'):Its w' M a n c L:=by
 obtain⟨ms,R,hs,hl,hm⟩:=h.ex;exact⟨⟨ms,R.ext0 hx,hs,hl,fun m hm'=>(hm m hm').call hx⟩,h.num,h.le⟩
theorem Its.weak(h:Its w M a n c L)(hM:∀x,M' x->M x):Its w M' a n c L:=by
 obtain⟨ms,R,hs,hl,hm⟩:=h.ex;exact⟨⟨ms,R,hs.imp id fun h h2=>h (hM _ h2),hl,fun m hm'=>(hm m hm').weak hM⟩,h.num,h.le⟩
theorem Its.take(h:Its w M a n c L){k:Nat}(hk:k<=n):Its w M a k c (L.take k):=by
 obtain⟨ms,R,hs,hl,hm⟩:=h.ex;have hn:=h.num;have hc:=h.le;refine⟨⟨ms.take k,R.take k,hs.imp (fun h=>by rw[h,List.take_nil]) id,by rw[List.map_take,hl],fun m hx=>hm m (qbs hx)⟩,?_,by omega⟩;rw[qa1];omega
theorem Its.drop(h:Its w M a n c L){k:Nat}(hk:k<=n):Its w M (Em a c k 3) (n - k) (c - k) (L.drop k):=by
 obtain⟨ms,R,hs,hl,hm⟩:=h.ex;have hn:=h.num;have hc:=h.le;have hml:ms.length=n:=by rw[hn,<-hl,qal]
 refine⟨⟨ms.drop k,R.cut k c (by omega),?_,by rw[qeg,hl],fun m hx=>hm m (qc0 hx)⟩,?_,by omega⟩
 .rw[Afv];exact hs.imp (fun h=>by rw[h,List.drop_nil]) id
 .rw[qbe];omega
end
theorem Ib{w:World}(a b:Option Addr)(c d n m:Nat)(x y:Byt)(Rx:Rd w a 1 B8 x)(Ry:Rd w b 1 B8 y)(hn:x.length=n)(hm:y.length=m) :
  Ret prog 127 #[.slice a n c,.slice b m d] w fun v w'=>v=.int .i64 (DE x y)/\w=w':=by
 subst hn hm;refine A6 (fn:=f127) func127 U [.slice a x.length c,.slice b y.length d] U (Ad (Ac U (qA (Ad (Ai U (Ai U (Aau (l:=[.slice a x.length c,.slice b y.length d]) (v := .int .i64 (DE x y)) U (by rw[run_callFunc_extern func154 (by kernel_rfl) (by kernel_rfl) (by kernel_rfl) (e:=Extern.BytealgCompare.compare) (by kernel_rfl),U9 Rx Ry];rfl) U ?_)))))));refine Ac U (qA (Ax (AH (v:=(.int _ _)) U U U ?_)));exact⟨rfl,rfl⟩
def BX(L:List It)(key:Byt):Nat:=(L.tail.takeWhile fun x=>decide (DE x.key key<=0)).length
theorem GR{α:Type}{p:α->Bool}:∀{l:List α} {i:Nat},(∀j x,j<i->l[j]?=some x->p x=true)->i<=l.length->(∀x,l[i]?=some x->p x=false)->(l.takeWhile p).length=i
 | [],i,_,hi,_=>by simp at hi;subst hi;rfl
 |x::l,0,_,_,h=>by rw[qcy,h x rfl];rfl
 |x::l,i+1,h,hi,h2=>by
  rw[qcy,h 0 x (by omega) rfl];simp only[if_true,qaw];rw[GR (l:=l) (i:=i) (fun j y hj hy=>h (j+1) y (by omega) hy) (by simpa using hi) fun y hy=>h2 y hy]
theorem Im.at{ms:List Im}{L:List It}(hl:ms.map (·.it)=L){i:Nat}{x:Im}(h:ms[i]?=some x):L[i]?=some x.it:=by rw[<-hl,qav,h];rfl
theorem VV{w:World}{M:Mut}{a:Option Addr}{n c:Nat}{L:List It}(I:Its w M a n c L)(ka:Option Addr)(kc kn:Nat)(key:Byt)(Rk:Rd w ka 1 B8 key)(hk:key.length=kn)(hm:n<=1000000:=by omega):
  Ret prog 182 #[.slice a n c,.slice ka kn kc] w fun v w'=>v=.int .i64 (BX L key:Int)/\w=w':=by
 subst hk;obtain⟨w0,rfl⟩:=qD w;obtain⟨ms,R,-,hl,hok⟩:=I.ex;have hnum:=I.num;have hml:ms.length=n:=by rw[hnum,<-hl,qal]
 refine A6 (fn:=f182) func182 U [.slice a n c,.slice ka key.length kc] U ?_;refine Ad (Ac U (qA (Ad (Ac U (qA (Ar (AD (BF 16777184 (α:=Nat) (fun i=>[(5,.int .i64 (i:Int))]) (fun i w'=>w0=w'/\(i=0\/i+1<=n)/\∀j x,j<i->L.tail[j]?=some x->DE x.key key<=0) (fun i=>n - i) 0 U ?_ ?_ ?_))))))))
 .exact⟨rfl,trivial⟩
 .exact⟨rfl,.inl rfl,fun j x h=>absurd h (qcp _)⟩
 .rintro i j w ⟨rfl,hi,hb⟩;refine Ar (Ad (Ae U (AA U U ?_)));refine Ai U (AO Br U (Bt U U (AC U (AX 11 U ?_ ?_))))
  .intro h1;replace h1:=AU h1;obtain⟨x,hx⟩:=AR (l:=ms) (i:=i+1);have hxL:=Im.at hl hx;have hxo:=hok x (qad hx);have hti:L.tail[i]?=some x.it:=by rw[List.getElem?_tail];exact hxL
   refine Ai U (Ae U (AA U U ?_));refine Bj R Br Bh U U (Af EZ U (Bf BL U (R.fld hx U (j:=0) U) ?_));refine Ai U (Ah qB (Ib x.ka ka x.kc kc _ _ x.it.key key hxo.k.1 Rk U U) U ?_);rintro v w ⟨rfl,rfl⟩;refine PX U U U (AQ U (.bool _) U (qA (Au _ U ?_ ?_)))
   .intro h2;replace h2:=AU h2;refine Aq (Aa (AD (Av (Ae U (AA U U ?_)))));refine Ac U (Ab (AF (Aa ?_)));refine⟨i+1,rfl,⟨rfl,trivial⟩,⟨rfl,.inr (by omega),fun j y hj hy=>?_⟩,by omega⟩
    rcases qbk j i with h3|h3
    .exact hb j y h3 hy
    .obtain rfl:j=i:=by omega
     rw[hti]at hy;cases hy;exact h2
   .intro h2;replace h2:=AV h2;refine B9 (A8 (A8 (Bd (Aa (Ad (Ae U (Ac U (qA (Ax (AH (v:=(.int _ _)) U U U ?_))))))))));refine⟨?_,rfl⟩;rw[BX,GR (i:=i) (fun j y hj hy=>qam (hb j y hj hy)) (by rw[qev];omega) fun y hy=>?_];rw[hti]at hy;cases hy;exact qai (by omega)
  .intro h1;replace h1:=AV h1;refine Ak U (Ak U (Ak U (Ak U (Ak U (Ak U (Ak U (Ak U (Ak U (AN U (.bool _) U ?_)))))))));refine qA (Bw U (B9 (A8 (A8 (Bd (Aa (Ad (Ae U (Ac U (qA (Ax (AH (v:=(.int _ _)) U U U ?_))))))))))));refine⟨?_,rfl⟩;rw[BX,GR (i:=i) (fun j y hj hy=>qam (hb j y hj hy)) (by rw[qev];omega) fun y hy=>?_];have:=(qaq.1 hy).1;rw[qev]at this;omega
def bsN(L:List It)(key:Byt)(i j:Nat):Nat :=
 if h:i<j then(if DE ((L[(i+j) / 2]?.map (·.key)).getD []) key<0 then bsN L key ((i+j) / 2+1) j else bsN L key i ((i+j) / 2))else i
termination_by j - i
def C0(L:List It)(key:Byt):Nat:=bsN L key 0 L.length
def EO(L:List It)(key:Byt):Bool:=match L[C0 L key]? with|some x=>decide (DE x.key key=0)|none=>false
theorem Yl{L:List It}{key:Byt}{i j:Nat}(h:i<j):bsN L key i j=if DE ((L[(i+j) / 2]?.map (·.key)).getD []) key<0 then bsN L key ((i+j) / 2+1) j else bsN L key i ((i+j) / 2):=by
 rw[bsN,dif_pos h]
theorem Nq{L:List It}{key:Byt}{i j:Nat}(h:j<=i:=by omega):bsN L key i j=i:=by
 rw[bsN,dif_neg (by omega)]
theorem Tu{w:World}{M:Mut}{x:Im}(hx:x.Ok w M)(ka:Option Addr)(kc kn:Nat)(key:Byt)(Rk:Rd w ka 1 B8 key)(hk:key.length=kn) :
  Ret prog 179 #[.agg x.enc.toArray,.slice ka kn kc] w fun v w'=>v=.int .i64 (DE x.it.key key)/\Ext [] w w':=by
 subst hk;obtain⟨w0,rfl,H⟩:=qE w;refine A6 (fn:=f179) func179 U [.agg x.enc.toArray,.slice ka key.length kc] U (Ad (Co x.enc (.agg _) U U H ?_));rintro b2 w - H;refine Ac U (qA (Ad (Af EZ U (AG BL U H at0 U (Ai U (Ah qB (Ib x.ka ka x.kc kc _ _ x.it.key key (hx.k.1.ext0 H.ext) (Rk.ext0 H.ext) U U) U ?_))))));rintro v w ⟨rfl,rfl⟩;refine Ac U (qA (Ax (AH (v:=(.int _ _)) U U U ?_)));exact⟨rfl,H.ext⟩
theorem Aba{w:World}{M:Mut}{a:Option Addr}{n c:Nat}{L:List It}(I:Its w M a n c L)(ka:Option Addr)(kc kn:Nat)(key:Byt)(Rk:Rd w ka 1 B8 key)(hk:key.length=kn)(hm:n<=1000000) :
  Ret prog 178 #[.slice a n c,.slice ka kn kc,.func (.func 179) #[] #[]] w fun v w'=>v=.tuple #[.int .i64 (C0 L key:Int),.bool (EO L key)]/\Ext [] w w':=by
 subst hk;obtain⟨w0,rfl⟩:=qD w;obtain⟨ms,R,-,hl,hok⟩:=I.ex;have hnum:=I.num;have hml:ms.length=n:=by rw[hnum,<-hl,qal]
 refine A6 (fn:=f178) func178 U [.slice a n c,.slice ka key.length kc,.func (.func 179) #[] #[]] U (Ad (Ac U (Am U (qA (Ad (Ai U (AO Br U (Ac U (qA (Ad ?_))))))))));refine Ae U (Ac U (Ac U (qA (Ar (AD (BF 34359709184 (α:=Nat × Nat) (fun s=>[(9,.int .i64 (s.1:Int)),(10,.int .i64 (s.2:Int))]) (fun s w'=>Ext [] w0 w'/\s.1<=s.2/\s.2<=n/\bsN L key s.1 s.2=C0 L key) (fun s=>s.2 - s.1) (0,n) U ?_ ?_ ?_))))))
 .exact⟨rfl,rfl,trivial⟩
 .exact⟨.refl _ _,qak _,qaf _,by rw[C0,<-hnum]⟩
 .rintro⟨i,k⟩ j w ⟨hx,hik,hk,hbs⟩;dsimp only at hx hik hk hbs;dsimp only;refine Ar (Ad (Ae U (Ae U (Bt U U (qA (Au _ U ?_ ?_))))))
  .intro h1;replace h1:=AU h1;obtain⟨h,hh⟩:=qD ((i+k) / 2 ^ 1);have hh2:h=(i+k) / 2:=hh;obtain⟨x,hx5⟩:=AR (l:=ms) (i:=h);have hxL:=Im.at hl hx5;have hxo:=hok x (qad hx5);rw[Yl (by omega),<-hh2,hxL]at hbs;simp only[qbd,qdp]at hbs;refine Aq (Aa (AD (Ad (Ae U (Ae U (AA U U ?_))))));refine Dw U EW Akm (Qf (n:=1) U U U ?_);refine DP U Akm EW (Ac U (qA ?_));rw[<-hh];refine Ad (DI U (.func _ _ _) U ?_);refine Ai U (Ae U (Bj R Br Bh U U ?_));refine EL _ Dd Bh U U ((R.ext0 hx).row hx5 U) (Ai U (Kg U U qB (Tu (hxo.call hx) ka kc _ key (Rk.ext0 hx) U) U ?_));rintro v w2 ⟨rfl,hx30⟩;refine Bt U U (qA (Au _ U ?_ ?_))
   .intro h2;replace h2:=AU h2;rw[if_pos h2]at hbs;refine Av (Ae U (AA U U ?_));refine Ac U (Ab (AF (Aa ?_)));exact⟨(h+1,k),rfl,⟨rfl,rfl,trivial⟩,⟨hx.trans hx30,by dsimp only;omega,hk,hbs⟩,by dsimp only;omega⟩
   .intro h2;replace h2:=AV h2;rw[if_neg (by omega)]at hbs;refine Av (Ae U (Ac U (Ab (AF (Aa ?_)))));exact⟨(i,h),rfl,⟨rfl,rfl,trivial⟩,⟨hx.trans hx30,by dsimp only;omega,by dsimp only;omega,hbs⟩,by dsimp only;omega⟩
  .intro h1;replace h1:=AV h1;rw[Nq]at hbs;refine B9 (A8 (A8 (Bd (Aa (Ad (Ae U (Ae U (Ae U (Bt U U (AC U (AX 39 U ?_ ?_)))))))))))
   .intro h2;replace h2:=AU h2;obtain⟨x,hx5⟩:=AR (l:=ms) (i:=i);have hxL:=Im.at hl hx5;have hxo:=hok x (qad hx5);refine DI U (.func _ _ _) U (Ai U (Ae U (Bj R Br Bh U U ?_)));refine EL _ Dd Bh U U ((R.ext0 hx).row hx5 U) (Ai U (Kg U U qB (Tu (hxo.call hx) ka kc _ key (Rk.ext0 hx) U) U ?_));rintro v w2 ⟨rfl,hx46⟩;refine B1 U U (AQ U (.bool _) U (Ac U (Am U (qA (Ax (Ce (v1:=(.int _ _)) (v2:=(.bool _)) U U U U ?_))))));refine⟨?_,hx.trans hx46⟩;rw[EO,<-hbs,hxL]
   .intro h2;replace h2:=AV h2;refine Ak U (Ak U (Ak U (Ak U (Ak U (Ak U (Ak U (Ak U (AN U (.bool _) U (Ac U ?_)))))))));refine Am U (qA (Ax (Ce (v1:=(.int _ _)) (v2:=(.bool _)) U U U U ?_)));refine⟨?_,hx⟩;have hnone:L[i]?=none:=qb0 (by omega);rw[EO,<-hbs,hnone]
theorem QJ{w:World}{M:Mut}{a:Option Addr}{n c:Nat}{L:List It}(I:Its w M a n c L)(ka:Option Addr)(kc kn:Nat)(key:Byt)(Rk:Rd w ka 1 B8 key)(hk:key.length=kn)(hm:n<=1000000:=by omega):
  Ret prog 146 #[.slice a n c,.slice ka kn kc] w fun v w'=>v=.tuple #[.int .i64 (C0 L key:Int),.bool (EO L key)]/\Ext [] w w':=by
 subst hk;refine A6 (fn:=f146) func146 U [.slice a n c,.slice ka key.length kc] U (Ad (Ac U (Am U (qA (Ad (Ai U (Ai U (Ah qB (Aba I ka kc _ key Rk U hm) U ?_))))))));rintro v w2 ⟨rfl,hx8⟩;refine Ag U U (Ag U U (Ac U (Am U (qA (Ax (Ce (v1:=(.int _ _)) (v2:=(.bool _)) U U U U ?_))))));exact⟨rfl,hx8⟩
theorem QK{w:World}{M:Mut}(inner:Bool)(a:Option Addr)(n c:Nat){x:Im}(hx:x.Ok w M)(hk:x.it.key.length<=1000000:=by omega)(hv:x.it.val.length<=1000000:=by omega):
  Ret prog 156 #[.agg #[.bool inner,.slice a n c],.agg x.enc.toArray] w fun v w'=>v=.int .i64 (C1 inner x.it:Int)/\Ext [] w w':=by
 obtain⟨w0,rfl,H⟩:=qE w;refine A6 (fn:=f156) func156 U [.agg #[.bool inner,.slice a n c],.agg x.enc.toArray] U (Ad (Co [.bool inner,.slice a n c] (.agg _) U U H ?_));rintro b2 w - H;refine Co x.enc (.agg _) U U H ?_;rintro b3 w - H;refine Ac U (qA (Ar (Ad (Af Dl U (AG Gx U H at1 U (qA (Au _ U ?_ ?_)))))))
 .intro h1;subst h1;refine Ad (Af EZ U (AG BL U H at0 U (AO AW U (AA U U ?_))));refine Ac U (qA (Ax (Ao (AH (v:=(.int _ _)) U U U ?_))));exact⟨rfl,H.ext⟩
 .intro h1;subst h1;refine Aq (Aa (Ad (Af EZ U (AG BL U H at0 U (AO AW U (AA U U ?_))))));refine Af Ks U (AG BL U H at0 U (AO AW U (AA U U ?_)));refine Ac U (qA (Ax (AH (v:=(.int _ _)) U U U ?_)));exact⟨rfl,H.ext⟩
abbrev SB:=Option Addr × Byt × Nat
def Afw(x:SB):List Value:=[.slice x.1 x.2.1.length x.2.2]
def RdS(w:World)(x:SB):Prop:=Rd w x.1 1 B8 x.2.1/\x.2.1.length<=x.2.2
theorem RdS.ext0{w w':World}{x:SB}(h:RdS w x)(hx:Ext [] w w'):RdS w' x:=⟨h.1.ext0 hx,h.2⟩
def Dg(b:Byt):UInt8:=bif decide (Ez b=0)then FX b else 0
def B6(b:Byt):Byt:=bif decide (Ez b=0)then C8 b else[]
theorem Aip{b:Byt}{w w':World}{v:Value}(h:Nf b w v w'):∃a c,v=.tuple #[bv (Dg b),.slice a (B6 b).length c,.int .i64 (Ez b)]/\Ext [] w w'/\Rd w' a 1 B8 (B6 b)/\(B6 b).length<=c:=by
 rcases h with⟨h,rfl,hx⟩|⟨h,s,rfl,F⟩
 .exact⟨none,0,by rw[Dg,B6,qai h];rfl,hx,by rw[B6,qai h];exact Rd.nil,by rw[B6,qai h];exact qaf _⟩
 .obtain⟨a,c,rfl,R,hc⟩:=Fresh.rdB F;exact⟨a,c,by rw[Dg,B6,h];rfl,F.ext,by rw[B6,h];exact R,by rw[B6,h];exact hc⟩
theorem Od(b:Byt):(B6 b).length<=505:=by
 unfold B6;cases decide (Ez b=0)
 .exact qak _
 .show(C8 b).length<=505;unfold C8 Ia;rw[qa1,qa1];omega
theorem Afx(k:Nat)(w:World)(hk:k<=100000000000:=by omega):Ret prog 141 #[.slice none 0 0,.int .i64 (k:Int)] w fun v w'=>∃a c full,v=.slice a 0 c/\Ctx w [] w' (ent a 5 full)/\OS a 0 c 1 full []:=by
 obtain⟨w0,rfl,H⟩:=qE w;refine A6 (fn:=f141) func141 U [.slice none 0 0,.int .i64 (k:Int)] U (Ad (Aj U (qA (Ar (Ad (Ae U (Bt U U ?_)))))));rw[qai (show ¬(k:Int)<0 by omega)];refine qA (Bw U (Aq (Aa (Ar (Ad (Ae U (Ai U (U0 U AW U (Ai U (AO AW U ?_))))))))));refine B4 U U (B4 U U ?_);rw[show(k:Int) - (((0:Nat):Int) - ((0:Nat):Int))=(k:Int)by omega];refine Ac U (qA (Ad (Ae U (Ci U U (qA (Au _ U ?_ ?_))))))
 .intro h1;replace h1:=AU h1;refine Av (Ai U (Ai U (U0 U AW U (Ee AW CO U U ?_))));refine Ae U (V4 U AW EW CO Pu HY U U U H ?_);rintro b c full w H O hkc;refine Ai U (AO AW U (Ee AW CO U U ?_));refine Aj U (qA (Ad (Ai U (Aj U (qA (Ax (AH (v:=(.slice _ _ _)) U U U ?_)))))));exact⟨some ⟨b,0,none⟩,c,full,rfl,H,O⟩
 .intro h1;replace h1:=AV h1;refine Aq (Aa (Ad (Ai U (Aj U (qA (Ax (AH (v:=(.slice _ _ _)) U U U ?_)))))));exact⟨none,0,[],rfl,H,OS.nil⟩
theorem Oe{α β:Type}{l:List α}{i:Nat}{x:α}(f:α->List β)(h:l[i]?=some x):(l.take (i+1)).flatMap f=(l.take i).flatMap f++f x:=by
 rw[Bx h,qbp,qc7]
theorem Nr{α:Type}{l:List α}{i:Nat}{x:α}(f:α->Nat)(h:l[i]?=some x):((l.take (i+1)).map f).sum=((l.take i).map f).sum+f x:=by
 rw[Bx h,qaz,List.sum_append];simp
theorem Ns{α:Type}(l:List α)(i:Nat)(f:α->Nat):((l.take i).map f).sum<=(l.map f).sum:=by
 have h:(l.map f).sum=((l.take i).map f).sum+((l.drop i).map f).sum:=by rw[<-List.sum_append,<-qaz,qbl]
 omega
theorem Nt{α β:Type}(l:List α)(f:α->List β):(l.flatMap f).length=(l.map fun x=>(f x).length).sum:=by
 rw[List.length_flatMap]
theorem Ym{w:World}{a:Option Addr}{n c:Nat}(xs:List SB)(R:Rd w a 1 Afw xs)(hx:∀x∈xs,RdS w x)(hn:n=xs.length)(hm:n<=1000000)(hs:(xs.map fun x=>x.2.1.length).sum<=10000000000:=by omega):
  Ret prog 116 #[.slice a n c] w fun v w'=>Fresh w w' 5 1 v ((xs.flatMap fun x=>x.2.1).map bv):=by
 subst hn;obtain⟨w0,rfl,H⟩:=qE w;refine A6 (fn:=f116) func116 U [.slice a xs.length c] U (Ad (Aj U (qA (Ad (Ac U (qA (Ar (Ad (Ai U (AO Ew U ?_))))))))));refine Ae U (qA (AD (BF 8386600 (α:=Nat) (fun i=>[(11,.int .i64 (i:Int)),(3,.int .i64 ((((xs.take i).map fun x=>x.2.1.length).sum:Nat):Int))]) (fun i w'=>w0=w'/\i<=xs.length) (fun i=>xs.length - i) 0 U ?_ ?_ ?_)))
 .exact⟨rfl,rfl,trivial⟩
 .exact⟨rfl,qak _⟩
 .rintro i j w ⟨rfl,hi⟩;refine Ad (Bt U U (qA (Ar (Au _ U ?_ ?_))))
  .intro h1;replace h1:=AU h1;obtain⟨x,hx1⟩:=AR (l:=xs) (i:=i);have hsn:=Nr (fun x:SB=>x.2.1.length) hx1;have hst:=Ns xs (i+1) (fun x:SB=>x.2.1.length);refine Aq (Aa (Ar (AD (Ad (Bj R Ew FA U U (hn:=by rfl) ?_)))));refine Bf BL U (R.fld hx1 U (j:=0) U) (Aj U (qA (Ad (Ae U (Ai U (AO AW U (AA U U ?_)))))));refine Ac U (qA (Ad (Ae U (Bt U U ?_))));rw[qai (show ¬(_:Int)<0 by omega)];refine qA (Bw U (Aq (AF (Aa (Av (AA U U ?_))))));refine Ae U (qA ?_);exact⟨i+1,rfl,⟨rfl,qac (Value.int .i64) (by rw[hsn];rfl),trivial⟩,⟨rfl,by omega⟩,by omega⟩
  .intro h1;replace h1:=AV h1;have hii:i=xs.length:=by omega
   subst hii;rw[qbb];refine B9 (A8 (A8 (Bd (Aa (Ad (Ae U (Ah qB (Afx _ _) U ?_)))))));rintro v w ⟨a24,c24,full24,rfl,H,O⟩;refine Aj U (qA (Ar (Ad (Ai U (AO Ew U (Ae U (qA (AD (BF 34225520960 (α:=Nat × Option Addr × Nat × List Value) (fun s=>[(27,.int .i64 (s.1:Int)),(6,.slice s.2.1 ((xs.take s.1).flatMap fun x=>x.2.1).length s.2.2.1)]) (fun s w'=>s.1<=xs.length/\Ctx w0 [] w' (ent s.2.1 5 s.2.2.2)/\OS s.2.1 ((xs.take s.1).flatMap fun x=>x.2.1).length s.2.2.1 1 s.2.2.2 (((xs.take s.1).flatMap fun x=>x.2.1).map bv)) (fun s=>xs.length - s.1) (0,a24,c24,full24) U ?_ ?_ ?_)))))))))
   .exact⟨rfl,rfl,trivial⟩
   .exact⟨qak _,H,O⟩
   .rintro⟨i,a6,c6,full6⟩ j w ⟨hi,H,O⟩;dsimp only at hi H O;dsimp only;refine Ad (Bt U U (qA (Ar (Au _ U ?_ ?_))))
    .intro h2;replace h2:=AU h2;obtain⟨x,hx1⟩:=AR (l:=xs) (i:=i);have hxs:=hx x (qad hx1);have hsn:=Nr (fun x:SB=>x.2.1.length) hx1;have hst:=Ns xs (i+1) (fun x:SB=>x.2.1.length);have hfl:=Nt (xs.take i) (fun x:SB=>x.2.1);have hfs:=Oe (fun x:SB=>x.2.1) hx1;refine Aq (Aa (Ar (AD (Ad (Bj R Ew FA U U (hn:=by rfl) ?_)))));refine Bf BL U ((R.ext0 H.ext).fld hx1 U (j:=0) U) (Aj U (qA (Av (Ai U (Ai U (Fk (L:=[]) U AW AW CO Pu HY U (x.2.1.map bv) U U H O (by simp) (HQ _) (Rd.appB (hxs.1.ext0 H.ext)) ?_))))));rintro a7 c7 full7 w H O;rw[<-qaz,<-hfs]at O;rw[<-qan,<-hfs]at O;rw[<-qan,<-hfs];refine Aj U (Ab (AF (Aa (Av (AA U U ?_)))));refine Ae U (qA ?_)
     exact⟨(i+1,a7,c7,full7),rfl,⟨rfl,rfl,trivial⟩,⟨by dsimp only;omega,H,O⟩,by dsimp only;omega⟩
    .intro h2;replace h2:=AV h2;have hii:i=xs.length:=by omega
     subst hii;rw[qbb]at O;rw[qbb];refine B9 (A8 (A8 (Bd (Aa (Ad (Ai U (Aj U (qA (Ax (AH (v:=(.slice _ _ _)) U U U ?_))))))))));exact Ctx.fresh (L:=[]) H O
theorem Afy(k:Nat)(w:World)(hk:k<=100000000000:=by omega):Ret prog 180 #[.slice none 0 0,.int .i64 (k:Int)] w fun v w'=>∃a c full,v=.slice a 0 c/\Ctx w [] w' (ent a 185 full)/\OS a 0 c 3 full []:=by
 obtain⟨w0,rfl,H⟩:=qE w;refine A6 (fn:=f180) func180 U [.slice none 0 0,.int .i64 (k:Int)] U (Ad (Aj U (qA (Ar (Ad (Ae U (Bt U U ?_)))))));rw[qai (show ¬(k:Int)<0 by omega)];refine qA (Bw U (Aq (Aa (Ar (Ad (Ae U (Ai U (U0 U Br U (Ai U (AO Br U ?_))))))))));refine B4 U U (B4 U U ?_);rw[show(k:Int) - (((0:Nat):Int) - ((0:Nat):Int))=(k:Int)by omega];refine Ac U (qA (Ad (Ae U (Ci U U (qA (Au _ U ?_ ?_))))))
 .intro h1;replace h1:=AU h1;refine Av (Ai U (Ai U (U0 U Br U (Ee Br Bh U U ?_))));refine Ae U (V4 U Br EW Bh J8 Cr U U U H ?_);rintro b c full w H O hkc;refine Ai U (AO Br U (Ee Br Bh U U ?_));refine Aj U (qA (Ad (Ai U (Aj U (qA (Ax (AH (v:=(.slice _ _ _)) U U U ?_)))))));exact⟨some ⟨b,0,none⟩,c,full,rfl,H,O⟩
 .intro h1;replace h1:=AV h1;refine Aq (Aa (Ad (Ai U (Aj U (qA (Ax (AH (v:=(.slice _ _ _)) U U U ?_)))))));exact⟨none,0,[],rfl,H,OS.nil⟩
abbrev SI:=Option Addr × List It × Nat
def Nu(x:SI):List Value:=[.slice x.1 x.2.1.length x.2.2]
theorem Im.one(ms:List Im):∀v∈ms.flatMap Im.enc,Bg v=true:=fun v hv=>by
 obtain⟨m,_,hv⟩:=List.mem_flatMap.1 hv;simp only[Im.enc,qab,qaj,or_false]at hv
 rcases hv with rfl|rfl|rfl <;> rfl
theorem Im.flat_len(ms:List Im):(ms.flatMap Im.enc).length=ms.length*3:=by
 rw[List.length_flatMap]
 induction ms with
 |nil=>rfl
 |cons m ms ih=>rw[qay,qcz,ih,qaw];show 3+_=_;omega
theorem FK{w:World}{M:Mut}(hM:∀x,M x->x<w.heap.size){a:Option Addr}{n c:Nat}(xs:List SI)(R:Rd w a 1 Nu xs)(hx:∀x∈xs,Its w M x.1 x.2.1.length x.2.2 x.2.1)(hn:n=xs.length)(hs:(xs.map fun x=>x.2.1.length).sum<=100000000)(hm:n<=1000000:=by omega):
  Ret prog 147 #[.slice a n c] w fun v w'=>∃a' c',v=.slice a' (xs.flatMap fun x=>x.2.1).length c'/\Its w' M a' (xs.flatMap fun x=>x.2.1).length c' (xs.flatMap fun x=>x.2.1)/\Ext [] w w':=by
 subst hn;obtain⟨w0,rfl,H⟩:=qE w;refine A6 (fn:=f147) func147 U [.slice a xs.length c] U (Ad (Aj U (qA (Ad (Ac U (qA (Ar (Ad (Ai U (AO HV U ?_))))))))));refine Ae U (qA (AD (BF 8386600 (α:=Nat) (fun i=>[(11,.int .i64 (i:Int)),(3,.int .i64 ((((xs.take i).map fun x=>x.2.1.length).sum:Nat):Int))]) (fun i w'=>w0=w'/\i<=xs.length) (fun i=>xs.length - i) 0 U ?_ ?_ ?_)))
 .exact⟨rfl,rfl,trivial⟩
 .exact⟨rfl,qak _⟩
 .rintro i j w ⟨rfl,hi⟩;refine Ad (Bt U U (qA (Ar (Au _ U ?_ ?_))))
  .intro h1;replace h1:=AU h1;obtain⟨x,hx1⟩:=AR (l:=xs) (i:=i);have hsn:=Nr (fun x:SI=>x.2.1.length) hx1;have hst:=Ns xs (i+1) (fun x:SI=>x.2.1.length);refine Aq (Aa (Ar (AD (Ad (Bj R HV C4 U U (hn:=by rfl) ?_)))));refine Bf BK U (R.fld hx1 U (j:=0) U) (Aj U (qA (Ad (Ae U (Ai U (AO Br U (AA U U ?_)))))));refine Ac U (qA (Ad (Ae U (Bt U U ?_))));rw[qai (show ¬(_:Int)<0 by omega)];refine qA (Bw U (Aq (AF (Aa (Av (AA U U ?_))))));refine Ae U (qA ?_);exact⟨i+1,rfl,⟨rfl,qac (Value.int .i64) (by rw[hsn];rfl),trivial⟩,⟨rfl,by omega⟩,by omega⟩
  .intro h1;replace h1:=AV h1;have hii:i=xs.length:=by omega
   subst hii;rw[qbb];refine B9 (A8 (A8 (Bd (Aa (Ad (Ae U (Ah qB (Afy _ _) U ?_)))))));rintro v w ⟨a24,c24,full24,rfl,H,O⟩;refine Aj U (qA (Ar (Ad (Ai U (AO HV U (Ae U (qA (AD (BF 34225520960 (α:=Nat × Option Addr × Nat × List Value × List Im) (fun s=>[(27,.int .i64 (s.1:Int)),(6,.slice s.2.1 s.2.2.2.2.length s.2.2.1)]) (fun s w'=>s.1<=xs.length/\Ctx w0 [] w' (ent s.2.1 185 s.2.2.2.1)/\OS s.2.1 s.2.2.2.2.length s.2.2.1 3 s.2.2.2.1 (s.2.2.2.2.flatMap Im.enc)/\s.2.2.2.2.map (·.it)=(xs.take s.1).flatMap (fun x=>x.2.1)/\∀m∈s.2.2.2.2,m.Ok w0 M) (fun s=>xs.length - s.1) (0,a24,c24,full24,[]) U ?_ ?_ ?_)))))))))
   .exact⟨rfl,rfl,trivial⟩
   .exact⟨qak _,H,O,rfl,fun m hm=>by cases hm⟩
   .rintro⟨i,a6,c6,full6,ms⟩ j w ⟨hi,H,O,hms,hmo⟩;dsimp only at hi H O hms hmo;dsimp only;refine Ad (Bt U U (qA (Ar (Au _ U ?_ ?_))))
    .intro h2;replace h2:=AU h2;obtain⟨x,hx1⟩:=AR (l:=xs) (i:=i);obtain⟨ns,Rn,-,hnl,hno⟩:=(hx x (qad hx1)).ex;have hnn:ns.length=x.2.1.length:=by rw[<-hnl,qal]
     have hsn:=Nr (fun x:SI=>x.2.1.length) hx1;have hst:=Ns xs (i+1) (fun x:SI=>x.2.1.length);have hfl:=Nt (xs.take i) (fun x:SI=>x.2.1);have hml:ms.length=((xs.take i).flatMap fun x=>x.2.1).length:=by rw[<-hms,qal]
     have hfs:=Oe (fun x:SI=>x.2.1) hx1;refine Aq (Aa (Ar (AD (Ad (Bj R HV C4 U U (hn:=by rfl) ?_)))));refine Bf BK U ((R.ext0 H.ext).fld hx1 U (j:=0) U) (Aj U (qA (Av (Ai U (Ai U (Fk (L:=[]) U Br Br Bh J8 Cr U (ns.flatMap Im.enc) U U H O (by rw[Im.flat_len,hnn]) (Im.one _) ((Rn.ext0 H.ext).app (fun _ _=>rfl) (by decide)) ?_))))));rintro a7 c7 full7 w H O;rw[<-qbp,<-hnn,<-qan]at O;rw[<-hnn,<-qan];refine Aj U (Ab (AF (Aa (Av (AA U U ?_)))));refine Ae U (qA ?_);refine⟨(i+1,a7,c7,full7,ms++ns),rfl,⟨rfl,rfl,trivial⟩,⟨by dsimp only;omega,H,O,by dsimp only;rw[qaz,hms,hnl,hfs],fun m hm=>?_⟩,by dsimp only;omega⟩
     rcases qau.1 hm with hm|hm
     .exact hmo m hm
     .exact hno m hm
    .intro h2;replace h2:=AV h2;have hii:i=xs.length:=by omega
     subst hii;rw[qbb]at hms;have hml:ms.length=(xs.flatMap fun x=>x.2.1).length:=by rw[<-hms,qal]
     have Rm:=OS.rd O (fun x hx=>H.blk x hx) (fun _ _=>rfl) (by decide);refine B9 (A8 (A8 (Bd (Aa (Ad (Ai U (Aj U (qA (Ax (AH (v:=(.slice _ _ _)) U U U ?_))))))))));refine⟨a6,c6,by rw[hml],⟨⟨ms,Rm,?_,hms,fun m hm=>(hmo m hm).call H.ext⟩,rfl,by rw[<-hml];exact O.le⟩,H.ext⟩
     have hq:∀q:Addr,a6=some q->w0.heap.size<=q.block:=fun q hq=>by
      subst hq;exact(H.own (q.block,_) (qaa.2 U)).elim (fun h=>by cases h) id
     cases ha6:a6 with
     |none=>exact .inl (qa9 (by have h8:=O.le;have h9:=O.none' ha6;omega))
     |some q=>exact .inr fun hqM=>absurd (hM _ hqM) (Nat.not_lt.2 (hq q ha6))
theorem K1{inner:Bool}{L:List It}(h:∀x∈L,x.key.length<=65535/\x.val.length<=65535):AY inner L<=131076*L.length:=by
 induction L with
 |nil=>exact qak _
 |cons x L ih =>
  have h1:=h x (qae ..);have h2:=ih fun y hy=>h y (qag _ hy)
  have h3:C1 inner x<=131076:=by
   cases inner
   .simp only[C1,cond_false];omega
   .simp only[C1,cond_true];omega
  rw[CP,qaw];omega
theorem QL{inner:Bool}{L:List It}{i:Nat}{x:It}(h:L[i]?=some x):AY inner (L.take (i+1))=AY inner (L.take i)+C1 inner x:=by
 rw[Bx h,B2,CP];rfl
def NB(inner:Bool)(a:Option Addr)(n c:Nat):List Value:=[.bool inner,.slice a n c]
theorem QM{w:World}{M:Mut}(inner:Bool){a:Option Addr}{n c:Nat}{L:List It}(I:Its w M a n c L)(hm:n<=1000000)(hsz:∀x∈L,x.key.length<=65535/\x.val.length<=65535) :
  Ret prog 155 #[.agg #[.bool inner,.slice a n c]] w fun v w'=>v=.int .i64 (AY inner L:Int)/\Ext [] w w':=by
 obtain⟨w0,rfl,H⟩:=qE w;obtain⟨ms,R,-,hl,hok⟩:=I.ex;have hnum:=I.num;have hml:ms.length=n:=by rw[hnum,<-hl,qal]
 refine A6 (fn:=f155) func155 U [.agg #[.bool inner,.slice a n c]] U (Ad (Co (NB inner a n c) (.agg _) U U H ?_));rintro b1 w - H;refine Ac U (qA (Ar (Ad (Af Bq U (AG BK U H at0 U (AO Br U (Ae U (qA (AD ?_)))))))));obtain⟨wb,rfl⟩:=qD w;have hb1:=H.get at0;have hxb:=H.ext;have hnode:∀{z:World},Ext [] wb z->z.heap[b1]?=some (Bl 183 (NB inner a n c)):=fun{z} h=>by rw[h.block b1 (Al hb1) (by simp)];exact hb1
 refine BF 261908 (α:=Nat) (fun i=>[(8,.int .i64 (i:Int)),(2,.int .i64 (AY inner (L.take i):Int))]) (fun i w'=>i<=n/\Ext [] wb w') (fun i=>n - i) 0 U ?_ ?_ ?_
 .exact⟨rfl,rfl,trivial⟩
 .exact⟨qak _,.refl _ _⟩
 .rintro i j w ⟨hi,hx⟩;have H:=Ctx.start w [];refine Ad (Bt U U (qA (Ar (Au _ U ?_ ?_))))
  .intro h1;replace h1:=AU h1;obtain⟨x,hx1⟩:=AR (l:=ms) (i:=i);have hxL:=Im.at hl hx1;have hxo:=hok x (qad hx1);have hxs:=hsz x.it (qad hxL);have hts:=QL (inner:=inner) hxL;have htl:=K1 (inner:=inner) (L:=L.take i) fun y hy=>hsz y (qbs hy);have hlt:=qa1 (i:=i) (l:=L)
   have hsx:C1 inner x.it<=131076:=by
    cases inner
    .simp only[C1,cond_false];omega
    .simp only[C1,cond_true];omega
   refine Aq (Aa (Ar (AD (Ad (Bj R Br Bh U U ?_)))));refine EL x.enc Dd Bh U U ((R.ext0 (hxb.trans hx)).row hx1 U) (Be Cr H ?_);rintro b4 w - H;refine Bi Bh U U U (by exact Im.oneE _) H at0 U ?_;rintro w H;refine qA (Av (Ae U (EL (NB inner a n c) BH Ba U U (fun j v hv=>by rw[Ap (hnode (hx.trans H.ext)),qa3];exact hv) ?_)));refine BG Dd Bh U H at0 U (Ah qB (QK inner a n c (hxo.call ((hxb.trans hx).trans H.ext))) U ?_);rintro v w ⟨rfl,hx15⟩;replace H:=H.call hx15;refine AA U U (Ac U (Ab (AF (Aa (Av (AA U U ?_))))));refine Ae U (qA ?_);exact⟨i+1,rfl,⟨rfl,qac (Value.int .i64) (by rw[hts];rfl),trivial⟩,⟨by omega,hx.trans H.ext⟩,by omega⟩
  .intro h1;replace h1:=AV h1;have hii:i=n:=by omega
   subst hii;rw[hnum,qbb];refine B9 (A8 (A8 (Bd (Aa (Ad (Ae U (Ac U (qA (Ax (AH (v:=(.int _ _)) U U U ?_))))))))));exact⟨rfl,hxb.trans hx⟩
theorem Akr(l:Byt)(n:Nat):Mg l n 2=l++Bo n 2:=by rw[Mg,show Hd 2=true by decide];rfl
theorem Fd(a:Option Addr)(c m:Nat)(b:Byt)(sa:Option Addr)(sc sn:Nat)(s:Byt)(w:World)(R:Rd w a 1 B8 b)(hb:b.length=m)(hm:m<=1000000000)(Rs:Rd w sa 1 B8 s)(hs:s.length=sn)(hc:sn<=sc)(hn:sn<=65535:=by omega):
  Ret prog 85 #[.slice a m c,.slice sa sn sc] w fun v w'=>∃x,v=.tuple #[x,.int .i64 0]/\Fresh w w' 5 1 x ((b++(Bo s.length 2++s)).map bv):=by
 subst hb hs;obtain⟨w0,rfl⟩:=qD w;refine A6 (fn:=f85) func85 U [.slice a b.length c,.slice sa s.length sc] U (Ad (Aj U (Ac U (qA (Ar (Ad (Ai U (AO AW U (Ci U U ?_)))))))));rw[qai (show ¬(65535:Int)<(s.length:Int)by omega)];refine qA (Bw U (Aq (Aa (Ad (Ai U (Ai U (AO AW U (Dw U EW Gy ?_))))))));refine Ah qB (FI a c _ b s.length 2 _ R U (hm:=by omega) (by omega)) U ?_;rintro v w F13;rw[Akr]at F13;obtain⟨a13,c13,rfl,R13,hc13⟩:=Fresh.rdB F13;have H:=Ctx.start w [];refine Ai U (BQ (L:=[]) [.slice a13 (b++Bo s.length 2).length c13,.slice sa s.length sc] Ew FA Tg H ?_);rintro b15 w2 - H;have hl2:(([(a13,b++Bo s.length 2,c13),(sa,s,sc)]:List SB).map fun x=>x.2.1.length).sum=b.length+2+s.length:=(by simp[AP];try omega)
 refine Ah qB (Ym [(a13,b++Bo s.length 2,c13),(sa,s,sc)] (Rd.of_bl (r:=[]) (H.get at0) U (fun _ _=>rfl)) (fun x hx=>?_) U (by simp)) U ?_
 rotate_left
 rintro v w3 F16;obtain⟨a16,c16,rfl,R16,hc16⟩:=Fresh.rdB F16;refine Aj U (Ac U (qA (Ax (Ce (v1:=(.slice _ _ _)) (v2:=(.int _ _)) U U U U ?_))))
 .refine⟨_,rfl,?_⟩;have F:=Fresh.since F16 (F13.ext.trans H.ext)
  simpa using F
 .rcases qab.1 hx with rfl|hx
  .exact⟨R13.ext0 H.ext,hc13⟩
  .rw[qaa.1 hx];exact⟨(Rs.ext0 F13.ext).ext0 H.ext,hc⟩
theorem Tv(b:Byt)(at' k:Nat):∃(g nx:Nat),FC b (at':Int) (k:Int)=.tuple #[.int .u64 (g:Int),.int .i64 (nx:Int),.int .i64 (CV b (at':Int) (k:Int))]/\g<256 ^ k/\nx<=at'+k/\(CV b (at':Int) (k:Int)=0->g=numN ((b.drop at').take k)/\nx=at'+k):=by
 by_cases h:CV b (at':Int) (k:Int)=0
 .refine⟨numN ((b.drop at').take k),at'+k,?_,?_,qaf _,fun _=>⟨rfl,rfl⟩⟩
  .rw[FC,h];rfl
  .have h1:=JD ((b.drop at').take k);have h2:((b.drop at').take k).length<=k:=by rw[qa1];omega
   exact qat h1 (qcx (by omega) h2)
 .refine⟨0,0,?_,Nat.pow_pos (by omega),by omega,fun h'=>absurd h' h⟩;rw[FC,qai h];rfl
theorem Ty(b:Byt)(at':Nat):∃(g nx:Nat),FC b (at':Int) 2=.tuple #[.int .u64 (g:Int),.int .i64 (nx:Int),.int .i64 (CV b (at':Int) 2)]/\g<65536/\nx<=at'+2/\(CV b (at':Int) 2=0->g=numN ((b.drop at').take 2)/\nx=at'+2):=Tv b at' 2
theorem Abb(b:Byt)(at':Nat):∃(g nx:Nat),FC b (at':Int) 4=.tuple #[.int .u64 (g:Int),.int .i64 (nx:Int),.int .i64 (CV b (at':Int) 4)]/\g<4294967296/\nx<=at'+4/\(CV b (at':Int) 4=0->g=numN ((b.drop at').take 4)/\nx=at'+4):=Tv b at' 4
theorem Gs(a:Option Addr)(c m:Nat)(b:Byt)(at':Nat)(w:World)(R:Rd w a 1 B8 b)(hb:b.length=m)(hc:m<=c)(hm:m<=1000000000:=by omega)(ha:at'<=1000000000:=by omega):
  Ret prog 101 #[.slice a m c,.int .i64 (at':Int)] w fun v w'=>∃sa s sc nx e,v=.tuple #[.slice sa (List.length s) sc,.int .i64 ((nx:Nat):Int),.int .i64 e]/\Ext [] w w'/\Rdx w' (Old w) sa s/\s.length<=sc/\s.length<=b.length/\nx<=b.length/\(e=0->tbO b at'=some (s,nx))/\(e≠0->tbO b at'=none/\s=[]):=by
 subst hb;obtain⟨w0,rfl⟩:=qD w;obtain⟨g,nx,htv,hg,hnx,h0⟩:=Ty b at';refine A6 (fn:=f101) func101 U [.slice a b.length c,.int .i64 (at':Int)] U (Ad (Aj U (Ac U (Ac U (qA (Ad (Ai U (Ae U (Ah qB (Gq a c _ b (at':Int) 2 _ R U hc) U ?_)))))))));rintro v w ⟨rfl,hx12⟩;rw[htv];refine AM U (Ag U U (Ag U U (Ag U U (Ac U (Ac U (Ac U (qA (Ar (Ad ?_)))))))));refine Ae U (AZ U U (qA (Au _ U ?_ ?_)))
 .intro h1;replace h1:=Bu h1;have hn:tbO b at'=none:=by unfold tbO;rw[if_neg h1]
  refine Ad (Ae U (Aj U (Ac U (Ac U (qA (Ax (Ao (CG (v1:=(.slice _ _ _)) (v2:=(.int _ _)) (v3:=(.int _ _)) U U U U U ?_))))))));exact⟨none,[],0,0,_,rfl,hx12,Rdx.nil,qaf _,qak _,qak _,fun h=>absurd h h1,fun _=>⟨hn,rfl⟩⟩
 .intro h1;replace h1:=Bv h1;obtain⟨hg2,hnx2⟩:=h0 h1;subst hnx2;have ht:tbO b at'=if at'+2+g<=b.length then some ((b.drop (at'+2)).take g,at'+2+g)else none:=by unfold tbO;rw[if_pos h1,<-hg2]
  refine Aq (Aa (Ar (Ad (Ae U (Ae U (DP U Gy EW ?_))))));refine AA U U ?_;rw[show((at'+2:Nat):Int)+(g:Int)=((at'+2+g:Nat):Int)by omega];refine Ac U (qA (Ad (Ae U (Ai U (AO AW U (Ci U U (qA (Au _ U ?_ ?_))))))))
  .intro h2;replace h2:=AU h2;rw[if_neg (by omega)]at ht;refine Ad (Aj U (Ac U (Ac U (qA (Ax (Ao (CG (v1:=(.slice _ _ _)) (v2:=(.int _ _)) (v3:=(.int _ _)) U U U U U ?_)))))));exact⟨none,[],0,0,5,rfl,hx12,Rdx.nil,qaf _,qak _,qak _,fun h=>absurd h (by decide),fun _=>⟨ht,rfl⟩⟩
  .intro h2;replace h2:=AV h2;rw[if_pos (by omega)]at ht;have R2:Rd w (Em a c (at'+2) 1) 1 B8 ((b.drop (at'+2)).take g):=((R.ext0 hx12).cut (at'+2) c hc).take g;have hl2:((b.drop (at'+2)).take g).length=g:=by rw[qa1,qbe];omega
   refine Aq (Aa (Ad (Ai U (Ae U (Ae U (IM U AW CO U U U ?_))))));rw[qbm,qbm,show at'+2+g - (at'+2)=g by omega];refine Ah qB (Je _ _ g _ _ R2 hl2) U ?_;rintro v w3 ⟨F31,-⟩;obtain⟨a31,c31,rfl,R31,hc31,hn31⟩:=Fresh.newB F31;refine Ae U (Aj U (Ac U (Ac U (qA (Ax (CG (v1:=(.slice _ _ _)) (v2:=(.int _ _)) (v3:=(.int _ _)) U U U U U ?_))))));have hsz:=hx12.size;exact⟨a31,_,c31,at'+2+g,0,rfl,hx12.trans F31.ext,⟨R31,hn31.imp id fun h h2=>by unfold Old at h2;omega⟩,hc31,by rw[hl2];omega,by omega,fun _=>ht,fun h=>absurd rfl h⟩
theorem Old.mono{w w':World}{S:List Nat}(hx:Ext S w w'):∀x,Old w x->Old w' x:=fun _ h=>qat h hx.size
theorem Al7(inner:Bool)(a:Option Addr)(c m:Nat)(b:Byt)(at':Nat)(w:World)(R:Rd w a 1 B8 b)(hb:b.length=m)(hc:m<=c)(hm:m<=100000000:=by omega)(ha:at'<=100000000:=by omega):
  Ret prog 211 #[.bool inner,.slice a m c,.int .i64 (at':Int)] w fun v w'=>∃(x:Im) (nx:Nat) (e:Int),v=.tuple #[.agg x.enc.toArray,.int .i64 (nx:Int),.int .i64 e]/\Ext [] w w'/\x.Ok w' (Old w)/\nx<=b.length/\x.it.key.length<=b.length/\x.it.val.length<=b.length/\x.it.page<4294967296/\(e=0->Mh inner b at'=some (x.it,nx))/\(e≠0->Mh inner b at'=none):=by
 subst hb;obtain⟨w0,rfl,H⟩:=qE w;refine A6 (fn:=f211) func211 U [.bool inner,.slice a b.length c,.int .i64 (at':Int)] U (Ad (Be Cr H ?_));rintro b6 w - H;refine Ac U (Ac U (qA (Ar (Ad (AC U (qA (Au _ U ?_ ?_)))))))
 .intro hi;subst hi;obtain⟨g,nx,htv,hg,hnx,h0⟩:=Abb b at';refine Ad (Ai U (Ae U (Ah qB (Gq a c _ b (at':Int) 4 _ (R.ext0 H.ext) U hc) U ?_)));rintro v w ⟨rfl,hx16⟩;rw[htv];replace H:=H.call hx16;refine AM U (Ag U U (Ag U U (Ag U U (Ac U (Ac U (Ac U (qA (Ar (Ad ?_)))))))));refine Ae U (AZ U U (qA (Au _ U ?_ ?_)))
  .intro h1;replace h1:=Bu h1;refine Ad (BG Dd Bh U H at0 U (Ae U (Bi Bh U U U (by simp[Bg]) H at0 U ?_)));rintro w H;refine Ac U (Ac U (qA (Ax (Ao (Ao (MP U U U Dd Bh H at0 U (show _=(.int _ _)from rfl) (show _=(.int _ _)from rfl) ?_))))));refine⟨⟨none,0,none,0,⟨[],[],0⟩⟩,0,_,rfl,H.ext,⟨Rdx.nil,Rdx.nil,qaf _,qaf _⟩,qak _,qak _,qak _,by decide,fun h=>absurd h h1,fun _=>?_⟩;unfold Mh;rw[if_pos rfl,if_neg h1]
  .intro h1;replace h1:=Bv h1;obtain⟨hg2,hnx2⟩:=h0 h1;subst hnx2;refine Aq (Aa (Av (Ae U (DP U Gy EW ?_))));refine Ae U (Af F8 U (Bc (.int _ _) GZ U U U H at0 (by decide) ?_));rintro w H;refine Ac U (qA (Ad (Ai U (Ae U (Ah qB (Gs a c _ b (at'+4) _ (R.ext0 H.ext) U hc) U ?_)))));have hxw:=H.ext;have hb6:=H.lt (k:=0) rfl;rintro v w3 ⟨sa,s,sc,ny,e,rfl,hx31,X31,hsc,hsl,hny,he0,he1⟩;have Hold:=H.call hx31;replace H:=Ctx.startL (fun x hx=>Hold.blk x hx) Hold.nd;have hge:=(Hold.own _ (qae ..)).elim (fun h=>by cases h) id;refine AM U (Ag U U (Ag U U (Ag U U (Af EZ U (Bc (.slice _ _ _) FA U U U H at0 (by(simp;done)) ?_)))));rintro w H;refine Ac U (Ac U (qA (Ar (Ad (Ae U (B1 U U (AC U (AX 38 U ?_ ?_))))))))
   .intro h2;replace h2:=AU h2;refine AC U (Cl U (AQ U (.bool _) U (qA (Bw U (Aq (Aa (Ad (BG Dd Bh U H at0 U (Ae U (Ae U ?_))))))))));refine Bi Bh U U U (by simp[Bg]) H at0 U ?_;rintro w H;refine Ac U (Ac U (qA (Ax (MP U U U Dd Bh H at0 U (show _=(.int _ _)from rfl) (show _=(.int _ _)from rfl) ?_))));have X:=(X31.past H.ext (fun x hx=>by rw[qaa.1 hx];exact hb6)).weak (Old.mono hxw);refine⟨⟨sa,sc,none,0,⟨s,[],g⟩⟩,ny,e,rfl,Hold.ext.then H.ext (fun x hx => .inr (by rw[qaa.1 hx];exact hge)),⟨X,Rdx.nil,hsc,qaf _⟩,hny,hsl,qak _,hg,fun h=>?_,fun h=>absurd h2 h⟩;unfold Mh;rw[if_pos rfl,if_pos h1,he0 h,<-hg2]
   .intro h2;replace h2:=AV h2;refine Ak U (Ak U (AN U (.bool _) U (qA (Bw U (Aq (Aa (Ad (BG Dd Bh U H at0 U (Ae U (Ae U ?_))))))))));refine Bi Bh U U U (by simp[Bg]) H at0 U ?_;rintro w H;refine Ac U (Ac U (qA (Ax (MP U U U Dd Bh H at0 U (show _=(.int _ _)from rfl) (show _=(.int _ _)from rfl) ?_))));have X:=(X31.past H.ext (fun x hx=>by rw[qaa.1 hx];exact hb6)).weak (Old.mono hxw);refine⟨⟨sa,sc,none,0,⟨s,[],g⟩⟩,ny,e,rfl,Hold.ext.then H.ext (fun x hx => .inr (by rw[qaa.1 hx];exact hge)),⟨X,Rdx.nil,hsc,qaf _⟩,hny,hsl,qak _,hg,fun h=>absurd h h2,fun _=>?_⟩;unfold Mh;rw[if_pos rfl,if_pos h1,(he1 h2).1]
 .intro hi;subst hi;refine Aq (Aa (Ad (Ai U (Ae U (Ah qB (Gs a c _ b at' _ (R.ext0 H.ext) U hc) U ?_)))));have hxw:=H.ext;have hb6:=H.lt (k:=0) rfl;rintro v w3 ⟨sa,s,sc,ny,e,rfl,hx31,X31,hsc,hsl,hny,he0,he1⟩;have Hold:=H.call hx31;replace H:=Ctx.startL (fun x hx=>Hold.blk x hx) Hold.nd;have hge:=(Hold.own _ (qae ..)).elim (fun h=>by cases h) id;refine AM U (Ag U U (Ag U U (Ag U U (Af EZ U (Bc (.slice _ _ _) FA U U U H at0 (by decide) ?_)))));rintro w H;refine Ac U (Ac U (qA (Ar (Ad (Ae U (B1 U U (AC U (AX 38 U ?_ ?_))))))))
  .intro h2;replace h2:=AU h2;have hx3:=Hold.ext;refine AC U (Cl U (AQ U (.bool _) U (qA (Fi U (Av (Ai U (Ae U ?_)))))));have hE0:Ext [] w0 _:=Hold.ext.then H.ext (fun x hx => .inr (by rw[qaa.1 hx];exact hge));refine Ah qB (Gs a c _ b ny _ (R.ext0 hE0) U hc) U ?_;have hb6b:=H.lt (k:=0) rfl;rintro v w5 ⟨va,t,vc,nz,e2,rfl,hx45,X45,hvc,hvl,hnz,hf0,hf1⟩;have Hold2:=H.call hx45;replace H:=Ctx.startL (fun x hx=>Hold2.blk x hx) Hold2.nd;refine AM U (Ag U U (Ag U U (Ag U U (Af Ks U (Bc (.slice _ _ _) FA U U U H at0 (by(simp;done)) ?_)))));rintro w H;refine Ac U (Ac U (qA (Ad (BG Dd Bh U H at0 U (Ae U (Ae U (Bi Bh U U U (by simp[Bg]) H at0 U ?_)))))));rintro w H;refine Ac U (Ac U (qA (Ax (MP U U U Dd Bh H at0 U (show _=(.int _ _)from rfl) (show _=(.int _ _)from rfl) ?_))))
   have X1:=((X31.past Hold2.ext (fun x hx=>by rw[qaa.1 hx];exact hb6)).past H.ext (fun x hx=>by rw[qaa.1 hx];exact hb6)).weak (Old.mono hxw);have X2:=(X45.past H.ext (fun x hx=>by rw[qaa.1 hx];exact hb6b)).weak (Old.mono hE0);refine⟨⟨sa,sc,va,vc,⟨s,t,0⟩⟩,nz,e2,rfl,(Hold.ext.then Hold2.ext (fun x hx => .inr (by rw[qaa.1 hx];exact hge))).then H.ext (fun x hx => .inr (by rw[qaa.1 hx];exact hge)),⟨X1,X2,hsc,hvc⟩,hnz,hsl,hvl,(by show 0<4294967296;decide),fun h=>?_,fun h=>?_⟩
   .unfold Mh;rw[if_neg (by simp),he0 h2];simp only[hf0 h]
   .unfold Mh;rw[if_neg (by simp),he0 h2];simp only[(hf1 h).1]
  .intro h2;replace h2:=AV h2;refine Ak U (Ak U (AN U (.bool _) U (qA (Bw U (Aq (Aa (Ad (BG Dd Bh U H at0 U (Ae U (Ae U ?_))))))))));refine Bi Bh U U U (by simp[Bg]) H at0 U ?_;rintro w H;refine Ac U (Ac U (qA (Ax (MP U U U Dd Bh H at0 U (show _=(.int _ _)from rfl) (show _=(.int _ _)from rfl) ?_))));have X:=(X31.past H.ext (fun x hx=>by rw[qaa.1 hx];exact hb6)).weak (Old.mono hxw);refine⟨⟨sa,sc,none,0,⟨s,[],0⟩⟩,ny,e,rfl,Hold.ext.then H.ext (fun x hx => .inr (by rw[qaa.1 hx];exact hge)),⟨X,Rdx.nil,hsc,qaf _⟩,hny,hsl,qak _,(by show 0<4294967296;decide),fun h=>absurd h h2,fun _=>?_⟩;unfold Mh;rw[if_neg (by simp),(he1 h2).1]
theorem Al8(l:Byt)(n:Nat):Mg l n 4=l++Bo n 4:=by rw[Mg,show Hd 4=true by decide];rfl
theorem Afz(inner:Bool)(L:List It)(i:Nat)(hi:i=L.length):Value.int .u8 (if inner=true/\0<i then 3 else 2)=bv (Hi inner L):=by
 subst hi;unfold Hi bv
 cases inner with
 |false=>rfl
 |true =>
  cases L with
  |nil=>rfl
  |cons x L=>simp
theorem Af0{w:World}{M:Mut}(inner:Bool){a:Option Addr}{n c:Nat}{L:List It}(I:Its w M a n c L)(hm:n<=1000)(hsz:∀x∈L,x.key.length<=65535/\x.val.length<=65535)(hpgs:∀x∈L,x.page<9223372036854775808) :
  Ret prog 158 #[.agg #[.bool inner,.slice a n c]] w fun v w'=>Kw (Hi inner L) (Hh inner L) w v w':=by
 obtain⟨w0,rfl,H⟩:=qE w;obtain⟨ms,R,-,hl,hok⟩:=I.ex;have hnum:=I.num;have hml:ms.length=n:=by rw[hnum,<-hl,qal]
 refine A6 (fn:=f158) func158 U [.agg #[.bool inner,.slice a n c]] U (Ad (Co (NB inner a n c) (.agg _) U U H ?_));rintro b1 w - H;refine Aj U (Ac U (qA (Ad (Af Bq U (AG BK U H at0 U (AO Br U (Dw U EW Gy ?_)))))));refine Ah qB (FI none 0 0 [] n 2 _ Rd.nil U (by omega)) U ?_;rintro v w F12;rw[Akr,qba]at F12;obtain⟨a12,c12,rfl,R12,hc12⟩:=Fresh.rdB F12;replace H:=H.call F12.ext;refine Aj U (Ac U (qA (Ar (Ad (Af Bq U (AG BK U H at0 U (AO Br U (Ae U (qA ?_)))))))));refine AD ?_;obtain⟨wb,rfl⟩:=qD w;have hb1:=H.get at0;have hxb:=H.ext;have hnode:∀{z:World},Ext [] wb z->z.heap[b1]?=some (Bl 183 (NB inner a n c)):=fun{z} h=>by rw[h.block b1 (Al hb1) (by simp)];exact hb1
 have hlen0:(Bo n 2).length=2:=AP ..;refine BF 35184372023472 (α:=Nat × Option Addr × Nat) (fun s=>[(16,.int .i64 (s.1:Int)),(4,.slice s.2.1 (Bo n 2++(L.take s.1).flatMap (EA inner)).length s.2.2),(5,.int .u8 (if inner=true/\0<s.1 then 3 else 2))]) (fun s w'=>s.1<=n/\Ext [] wb w'/\Rd w' s.2.1 1 B8 (Bo n 2++(L.take s.1).flatMap (EA inner))) (fun s=>n - s.1) (0,a12,c12) U ?_ ?_ ?_
 .exact⟨rfl,qac (fun k=>Value.slice a12 k c12) (show(Bo n 2).length=_ by simp),qac (Value.int .u8) (show(2:Int)=_ by simp),trivial⟩
 .exact⟨qak _,.refl _ _,by simpa using R12⟩
 .rintro⟨i,a4,c4⟩ j w ⟨hi,hx,R4⟩;dsimp only at hi hx R4;dsimp only;have H:=Ctx.start w [];refine Ad (Bt U U (qA (Ar (Au _ U ?_ ?_))))
  .intro h1;replace h1:=AU h1;obtain⟨x,hx1⟩:=AR (l:=ms) (i:=i);have hxL:=Im.at hl hx1;have hxo:=hok x (qad hx1);have hxs:=hsz x.it (qad hxL);have hfs:(L.take (i+1)).flatMap (EA inner)=(L.take i).flatMap (EA inner)++EA inner x.it:=Oe _ hxL;have htl:=K1 (inner:=inner) (L:=L.take i) fun y hy=>hsz y (qbs hy);have hlt:=qa1 (i:=i) (l:=L);have hal:(Bo n 2++(L.take i).flatMap (EA inner)).length=2+AY inner (L.take i):=by rw[qan,AP,flat_len]
   obtain⟨acc,hacc⟩:=qD (Bo n 2++(L.take i).flatMap (EA inner));rw[<-hacc]at R4 hal |-;have hpg:x.it.page<9223372036854775808:=hpgs x.it (qad hxL);refine Aq (Aa (Ar (AD (Ad (Bj R Br Bh U U ?_)))));refine EL x.enc Dd Bh U U ((R.ext0 (hxb.trans hx)).row hx1 U) (Be Cr H ?_);rintro b7 w - H;refine Bi Bh U U U (by exact Im.oneE _) H at0 U ?_;rintro w H;refine qA (Ar (Ad (Af Dl U (Bf Gx U (Ap (hnode (hx.trans H.ext)) (0+0)) ?_))));refine qA (Au _ U ?_ ?_)
   .intro h2;refine Ad (Ac U (qA (Av (Ai U (Af F8 U (AG DU U H at0 U (Dw U EW Gy ?_)))))));refine Ah qB (FI a4 c4 _ acc x.it.page 4 _ (R4.ext0 H.ext) U (hm:=by omega) (by omega)) U ?_;rintro v w F26;rw[Al8]at F26;obtain⟨a26,c26,rfl,R26,hc26⟩:=Fresh.rdB F26;replace H:=H.call F26.ext;refine Aj U (qA (Ad (Ai U (Af EZ U (AG BL U H at0 U (Ah qB (Fd a26 c26 _ (acc++Bo x.it.page 4) x.ka x.kc _ x.it.key _ R26 U (by rw[qan,AP];omega) (hxo.k.1.ext0 ((hxb.trans hx).trans H.ext)) U hxo.kc) U ?_))))));rintro v w ⟨y,rfl,F31⟩;obtain⟨a31,c31,rfl,R31,hc31⟩:=Fresh.rdB F31;replace H:=H.call F31.ext;refine AM U (Ag U U (Ag U U (Aj U (qA (Ad (Af Dl U (Bf Gx U (Ap (hnode (hx.trans H.ext)) (0+0)) ?_)))))));refine Cl U ?_;rw[h2];refine qA (Bw U (Aq (AF (Aa (Av (AA U U ?_))))))
    refine Ae U (qA ?_)
    have he:acc++Bo x.it.page 4++(Bo x.it.key.length 2++x.it.key)=Bo n 2++(L.take (i+1)).flatMap (EA true):=by
     rw[<-h2,hfs,hacc,h2];simp[EA]
    rw[he]at R31;refine⟨(i+1,a31,c31),rfl,⟨rfl,qac (fun k=>Value.slice a31 k c31) (qac List.length he),qac (Value.int .u8) (show(3:Int)=_ by simp),trivial⟩,⟨by dsimp only;omega,hx.trans H.ext,R31⟩,by dsimp only;omega⟩
   .intro h2;refine Aq (Aa (Ad (Ai U (Af EZ U (AG BL U H at0 U (Ah qB (Fd a4 c4 _ acc x.ka x.kc _ x.it.key _ (R4.ext0 H.ext) U (by omega) (hxo.k.1.ext0 ((hxb.trans hx).trans H.ext)) U hxo.kc) U ?_))))));rintro v w ⟨y,rfl,F31⟩;obtain⟨a31,c31,rfl,R31,hc31⟩:=Fresh.rdB F31;replace H:=H.call F31.ext;refine AM U (Ag U U (Ag U U (Aj U (qA (Ad (Af Dl U (Bf Gx U (Ap (hnode (hx.trans H.ext)) (0+0)) ?_)))))));refine Cl U ?_;rw[h2];refine qA (Fi U (Av (Ai U (Af Ks U (AG BL U H at0 U ?_)))));have hl5:(acc++(Bo x.it.key.length 2++x.it.key)).length=acc.length+(2+x.it.key.length):=(by rw[qan,qan,AP]);refine Ah qB (Fd a31 c31 _ (acc++(Bo x.it.key.length 2++x.it.key)) x.va x.vc _ x.it.val _ R31 U (by omega) (hxo.v.1.ext0 ((hxb.trans hx).trans H.ext)) U hxo.vc) U ?_;rintro v w ⟨y,rfl,F41⟩
    obtain⟨a41,c41,rfl,R41,hc41⟩:=Fresh.rdB F41;replace H:=H.call F41.ext;refine AM U (Ag U U (Ag U U (Aj U (Ab (AF (Aa (Av (AA U U ?_))))))));refine Ae U (qA ?_)
    have he:acc++(Bo x.it.key.length 2++x.it.key)++(Bo x.it.val.length 2++x.it.val)=Bo n 2++(L.take (i+1)).flatMap (EA false):=by
     rw[<-h2,hfs,hacc,h2];simp[EA]
    rw[he]at R41;refine⟨(i+1,a41,c41),rfl,⟨rfl,qac (fun k=>Value.slice a41 k c41) (qac List.length he),qac (Value.int .u8) (show(if false=true/\0<i then(3:Int)else 2)=(if false=true/\0<i+1 then(3:Int)else 2)by simp),trivial⟩,⟨by dsimp only;omega,hx.trans H.ext,R41⟩,by dsimp only;omega⟩
  .intro h1;replace h1:=AV h1;have hii:i=n:=by omega
   subst hii;have hLi:L.take i=L:=by rw[hnum,qbb]
   have hbody:Bo i 2++(L.take i).flatMap (EA inner)=Hh inner L:=by rw[hLi,Hh,<-hnum]
   have hbl:=Lm inner L;have htl:=K1 (inner:=inner) hsz;rw[hbody]at R4 |-;rw[Afz inner L i hnum];refine B9 (A8 (A8 (Bd (Aa (Ad (Ae U (Ai U (Ah qB (UH (Hi inner L) a4 c4 _ (Hh inner L) _ R4 U) U ?_))))))));rintro v w3 SP;obtain⟨sa,sn,sc,e,rfl⟩:∃sa sn sc e,v=.tuple #[.slice sa sn sc,.int .i64 e]:=by(rcases SP with⟨_,rfl,_⟩|⟨_,s,rfl,B⟩;exact⟨_,_,_,_,rfl⟩;obtain⟨a9,c9,rfl,-⟩:=B.ex;exact⟨_,_,_,_,rfl⟩)
   refine Ag U U (Ag U U (Aj U (Ac U (qA (Ax (Ce (v1:=(.slice _ _ _)) (v2:=(.int _ _)) U U U U ?_))))));have hxx:=hxb.trans hx;have hsz:=hxx.size
   rcases SP with⟨h1,h2,h3⟩|⟨h1,s,h2,B⟩
   .exact .inl ⟨h1,h2,hxx.trans h3⟩
   .obtain⟨a9,c9,h5,R9,h6,h7⟩:=B.ex;exact .inr ⟨h1,s,h2,⟨⟨a9,c9,h5,R9,h6,qas hsz h7⟩,hxx.trans B.ext⟩⟩
def Af1(w:World)(ids:List Nat):Mut:=fun x=>x<w.heap.size\/x∈ids
theorem Af2{w0 w w':World}{L L':List (Nat × Obj)}(H:Ctx w (L.map (·.1)) w' L'):Grown (Af1 w0 (L.map (·.1))) (Af1 w0 (L'.map (·.1))) w w' :=
 ⟨⟨L.map (·.1),fun x h => .inr h,H.ext⟩,fun x h=>by
  rcases h with h|h
  .exact .inl (.inl h)
  .obtain⟨y,hy,rfl⟩:=qah.1 h
   rcases H.own y hy with h5|h5
   .exact .inl (.inr h5)
   .exact .inr h5⟩
theorem Af3(inner:Bool)(b:Byt)(at':Nat):EN inner b 0 at'=some ([],at'):=rfl
theorem OY{inner:Bool}{b:Byt}{n at':Nat}(h:Mh inner b at'=none):EN inner b (n+1) at'=none:=by
 unfold EN;rw[h]
theorem OZ{inner:Bool}{b:Byt}{n at' m:Nat}{x:It}(h:Mh inner b at'=some (x,m)):EN inner b (n+1) at'=(EN inner b n m).map fun r=>(x::r.1,r.2):=by
 rw[EN];rw[h];simp only;cases EN inner b n m <;> rfl
theorem Af4{b:Byt}{w w':World}{v:Value}(h:Nf b w v w'):∃a c,v=.tuple #[bv (Dg b),.slice a (B6 b).length c,.int .i64 (Ez b)]/\Ext [] w w'/\Rdx w' (Old w) a (B6 b)/\(B6 b).length<=c:=by
 rcases h with⟨h,rfl,hx⟩|⟨h,s,rfl,F⟩
 .exact⟨none,0,by rw[Dg,B6,qai h];rfl,hx,by rw[B6,qai h];exact Rdx.nil,by rw[B6,qai h];exact qaf _⟩
 .obtain⟨a,c,rfl,R,hc,hn⟩:=Fresh.newB F;exact⟨a,c,by rw[Dg,B6,h];rfl,F.ext,by rw[B6,h];exact Rdx.fresh R hn,by rw[B6,h];exact hc⟩
def OkL(b:Byt)(x:It):Prop:=x.key.length<=b.length/\x.val.length<=b.length/\x.page<4294967296
theorem Af5(a:Option Addr)(c m:Nat)(b:Byt)(w:World)(R:Rd w a 1 B8 b)(hb:b.length=m)(hc:m<=c)(hm:m<=1000000:=by omega):
  Ret prog 203 #[.slice a m c] w fun v w'=>∃(inner:Bool) (a':Option Addr) (n' c':Nat),v=.tuple #[.agg #[.bool inner,.slice a' n' c'],.bool (DZ b).isSome]/\Ext [] w w'/\∀i L,DZ b=some (i,L)->inner=i/\Its w' (Old w) a' n' c' L/\∀x∈L,OkL (B6 b) x:=by
 subst hb;obtain⟨w0,rfl,H⟩:=qE w;have hbl:=Od b;obtain⟨g,nx,htv,hg,hnx,h0⟩:=Ty (B6 b) 0;have hkt:=(Dg b).toNat_lt;obtain⟨ib,hib⟩:=qD (decide ((Dg b).toNat=3))
 have hP0:∀{x:Bool},(decide (Ez b=0) && (decide (CV (B6 b) ((0:Nat):Int) 2=0) && (decide ((Dg b).toNat=2) || decide ((Dg b).toNat=3))))=x->DZ b=if x=true then VU ib (B6 b) (EN ib (B6 b) (numN ((B6 b).take 2)) 2)else none:=by
  intro x hx;rw[hib];unfold DZ
  by_cases h1:Ez b=0
  .have e1:B6 b=C8 b:=by rw[B6,qam h1];rfl
   have e2:Dg b=FX b:=by rw[Dg,qam h1];rfl
   rw[e1,e2]at hx |-;subst hx
   by_cases h2:CV (C8 b) 0 2=0/\((FX b).toNat=2\/(FX b).toNat=3)
   .rw[if_pos ⟨h1,h2⟩,if_pos (by simpa[h1]using h2)]
   .rw[if_neg (fun h=>h2 h.2),if_neg (fun h=>h2 (by simpa[h1]using h))]
  .rw[if_neg (fun h=>h1 h.1)];subst hx;rw[if_neg (by simp[h1])]
 refine A6 (fn:=f203) func203 U [.slice a b.length c] U (Ad (Be Cb H ?_));rintro b2 w - H;refine Am U (qA (Ad (Ai U (Ah qB (UJ a c _ b _ (R.ext0 H.ext) U hc) U ?_))));have hb2:=H.lt (k:=0) rfl;rintro v w16 hop;obtain⟨a5,c5,rfl,hx16,X5,hc5⟩:=Af4 hop;have Hold:=H.call hx16;replace H:=Ctx.startL (fun x hx=>Hold.blk x hx) Hold.nd;have hge:=(Hold.own _ (qae ..)).elim (fun h=>by cases h) id;have R5:∀{z:World},Ext [b2] w16 z->Rd z a5 1 B8 (B6 b):=(fun{z} hz=>(X5.past hz (fun x hx=>by rw[qaa.1 hx];exact hb2)).1);refine AM U (Ag U U (Ag U U (Ag U U (Ac U (Aj U (Ac U (qA (Ad (Ae U ?_)))))))));refine B1 U U ?_;rw[show decide (((Dg b).toNat:Int)=3)=ib by rw[hib];exact decide_eq_decide.2 (by omega)];refine B0 [.bool ib,.slice none 0 0] Gp Cb (Be Cb H ?_)
 rintro b7 w - H;refine Bi Ba U U U (by simp[Bg]) H at0 U ?_;rintro w H;refine qA (Ad (Ai U (Ah qB (Gq a5 c5 _ (B6 b) ((0:Nat):Int) 2 _ (R5 H.ext) U hc5) U ?_)));rintro v w ⟨rfl,hx25⟩;rw[htv];replace H:=H.call hx25;refine AM U (Ag U U (Ag U U (Ag U U (Ac U (Ac U (Ac U (qA (Ar (Ad (BB (α:=Unit) 17591649173504 (fun _=>[(43,.bool (!(decide (Ez b=0) && (decide (CV (B6 b) ((0:Nat):Int) 2=0) && (decide ((Dg b).toNat=2) || decide ((Dg b).toNat=3))))))]) (fun _ w'=>Ctx w16 [b2] w' [(b7,Bl 183 [.bool ib,.slice none 0 0]),(b2,Bl 183 [.bool false,.slice none 0 0])]) U ?_ ?_))))))))))
 .refine Ae U (AZ U U (AC U (AX 31 U ?_ ?_)))
  .intro h1;replace h1:=Bu h1;refine Ak U (Ak U (AQ U (.bool _) U (AC U (Ak U (Ak U (Ak U (Ak U (Ak U (Ak U ?_)))))))));refine Ak U (AQ U (.bool _) U (Ab ?_));exact⟨rfl,(),rfl,⟨qac Value.bool (by rw[hib]at *;rw[qar];simp_all;try omega),trivial⟩,H⟩
  .intro h2;replace h2:=Bv h2;refine Ae U (AZ U U (AN U (.bool _) U (AC U (AX 35 U ?_ ?_))))
   .intro h3;replace h3:=Bu h3;refine Ak U (Ak U (Ak U (Ak U (Ak U (Ak U (Ak U (AQ U (.bool _) U (Ab ?_))))))));exact⟨rfl,(),rfl,⟨qac Value.bool (by rw[hib]at *;rw[qar];simp_all;try omega),trivial⟩,H⟩
   .intro h4;replace h4:=Bv h4;refine Ae U (AZ U U (AC U (AX 38 U ?_ ?_)))
    .intro h5;replace h5:=Bu h5;refine Af Dl U (AG Gx U H at0 U (Cl U (AQ U (.bool _) U (AN U (.bool _) U (Ab ?_)))));exact⟨rfl,(),rfl,⟨qac Value.bool (by rw[hib]at *;rw[qar];simp_all;try omega),trivial⟩,H⟩
    .intro h6;replace h6:=Bv h6;refine Ak U (Ak U (Ak U (AN U (.bool _) U (AN U (.bool _) U (Ab ?_)))));exact⟨rfl,(),rfl,⟨qac Value.bool (by rw[hib]at *;rw[qar];simp_all;try omega),trivial⟩,H⟩
 rintro - j43 w H;have hx0:∀{z:World},Ext [b2] w16 z->Ext [] w0 z:=fun{z} h=>Hold.ext.then h (fun x hx => .inr (by rw[qaa.1 hx];exact hge));refine Au _ U ?_ ?_
 .intro h1;replace h1:=CJ h1;have hP:=hP0 h1;rw[if_neg (by simp)]at hP;refine Ad (B0 [.bool false,.slice none 0 0] Gp Cb ?_);refine Bi Ba U U U (by simp[Bg]) H at1 U ?_;rintro w H;refine Am U (qA (Ax (Ao (Dh U U U BH Ba H at1 U (show _=(.bool _)from rfl) ?_))));exact⟨false,none,0,0,by rw[hP];rfl,hx0 H.ext,fun i L h=>by rw[hP]at h;cases h⟩
 .intro h1;replace h1:=CK h1;have hP:=hP0 h1;rw[if_pos rfl]at hP;simp only[qao,qap]at h1;obtain⟨hg2,hnx2⟩:=h0 h1.2.1;subst hnx2;rw[List.drop_zero]at hg2;rw[<-hg2]at hP
  refine Aq (Aa (Ar (Ad (Ae U (Ae U (qA (AD (BF 295147834810608663048 (α:=Nat × Nat × List Im × Option Addr × Nat × List Value) (fun s=>[(46,.int .u64 (s.1:Int)),(9,.int .i64 (s.2.1:Int))]) (fun s w'=>s.1<=g/\s.2.1<=505/\Ctx w16 [b2] w' ([(b7,Bl 183 [.bool ib,.slice s.2.2.2.1 s.2.2.1.length s.2.2.2.2.1]),(b2,Bl 183 [.bool false,.slice none 0 0])]++ent s.2.2.2.1 185 s.2.2.2.2.2)/\OS s.2.2.2.1 s.2.2.1.length s.2.2.2.2.1 3 s.2.2.2.2.2 (s.2.2.1.flatMap Im.enc)/\(∀m∈s.2.2.1,m.Ok w' (Af1 w0 (([(b7,Bl 183 [.bool ib,.slice s.2.2.2.1 s.2.2.1.length s.2.2.2.2.1]),(b2,Bl 183 [.bool false,.slice none 0 0])]++ent s.2.2.2.1 185 s.2.2.2.2.2).map (·.1)))/\OkL (B6 b) m.it)/\s.2.2.1.length=s.1/\EN ib (B6 b) g 2=(EN ib (B6 b) (g - s.1) s.2.1).map fun r=>(s.2.2.1.map (·.it)++r.1,r.2)) (fun s=>g - s.1) (0,2,[],none,0,[]) U ?_ ?_ ?_))))))))
  .exact⟨rfl,rfl,trivial⟩
  .refine⟨qak _,by decide,H,OS.nil,(fun m h=>by cases h),rfl,?_⟩;dsimp only;rw[Nat.sub_zero];cases EN ib (B6 b) g 2 <;> rfl
  .rintro⟨k,at',ms,aa,cc,full⟩ j w ⟨hk,hat,H,O,hms,hml,hpg⟩;dsimp only at hk hat H O hms hml hpg;dsimp only;refine Ad (Bt U U (qA (Ar (Au _ U ?_ ?_))))
   .intro h2;replace h2:=AU h2;rw[show g - k=(g - (k+1))+1 by omega]at hpg;refine Aq (Aa (Ar (AD (Ad (Af Dl U (AG Gx U H at0 U (Ai U (Ae U (Ah qB (Al7 ib a5 c5 _ (B6 b) at' _ (R5 H.ext) U hc5) U ?_)))))))));have hszw:=(fun y hy=>Al (H.blk y hy));have hEw:=hx0 H.ext;rintro v w1 ⟨x,nx,e,rfl,hx53,hxo,hnxb,hkl,hvl,hpl,he0,he1⟩;have Hold2:=H.call hx53;replace H:=Ctx.startL (fun x hx=>Hold2.blk x hx) Hold2.nd;refine AM U (Ag U U (Ag U U (Ag U U (Be Cr H ?_))));rintro b11 w - H;refine Bi Bh U U U (by exact Im.oneE _) H at0 U ?_;rintro w H;refine Ac U (Ac U (qA (Ar (Ad (Ae U (AZ U U (qA (Au _ U ?_ ?_))))))))
    .intro h3;replace h3:=Bu h3;rw[OY (he1 h3)]at hpg;rw[hpg]at hP;have hxx:Ext [] w0 w1:=hx0 Hold2.ext;refine Ad (B0 [.bool false,.slice none 0 0] Gp Cb ?_);refine Bi Ba U U U (by simp[Bg]) H at2 U ?_;rintro w H;refine Am U (qA (Ax (Ao (AL (Ao (Ao (AL (Ao (Dh U U U BH Ba H at2 U (show _=(.bool _)from rfl) ?_)))))))));refine⟨false,none,0,0,by rw[hP];rfl,hxx.then H.ext (fun y hy => .inr ?_),fun i L h=>by rw[hP]at h;cases h⟩;obtain⟨z,hz,rfl⟩:=qah.1 hy
     rcases Hold2.own z hz with h5|h5
     .rw[qaa.1 h5];exact hge
     .have:=Hold.ext.size;omega
    .intro h3;replace h3:=Bv h3;have hone:=he0 h3;rw[OZ hone]at hpg;refine Aq (Aa (Av (Af Bq U (AG BK U H at1 U (BG Dd Bh U H at0 U (BP _ (.agg _) Br Bh Cr U U U U H ?_))))));rintro b63 w - H;refine Cf (L:=[_,_,_]) Br Br Bh J8 Cr U U U H O U (Im.oneE x) ?_;rintro a64 c64 full64 w H O;refine Ae U (Af Bq U (Bc (.slice _ _ _) C4 U U U H at1 (by(simp;done)) ?_));rintro w H;refine Ac U (Ab (AF (Aa (Av (Jw U U U ?_)))));refine Ae U (qA ?_);have hL1:(ms++[x]).length=ms.length+1:=by simp
     have H2:Ctx w1 (([(b7,Bl 183 [.bool ib,.slice aa ms.length cc]),(b2,Bl 183 [.bool false,.slice none 0 0])]++ent aa 185 full).map (·.1)) w ([(b7,Bl 183 [.bool ib,.slice a64 (ms++[x]).length c64]),(b2,Bl 183 [.bool false,.slice none 0 0])]++ent a64 185 full64):=by rw[hL1];exact H.tail
     have G:=Af2 (w0:=w0) H2;refine⟨(k+1,nx,ms++[x],a64,c64,full64),rfl,⟨rfl,rfl,trivial⟩,⟨by dsimp only;omega,by dsimp only;omega,Ctx.nil_app (Ctx.back (L2:=[]) (Ctx.app_nil Hold2) H2),by dsimp only;rw[hL1,qbp];simpa using O,fun m hm=>?_,by dsimp only;omega,?_⟩,by dsimp only;omega⟩
     .dsimp only at hm |-
      rcases qau.1 hm with hm|hm
      .exact⟨((hms m hm).1.call hx53).turn G,(hms m hm).2⟩
      .rw[qaa.1 hm];refine⟨(hxo.weak fun y hy=>?_).turn G,hkl,hvl,hpl⟩
       rcases hy with hy|hy
       .exact qat hy hEw.size
       .obtain⟨z,hz,rfl⟩:=qah.1 hy;exact hszw z hz
     .dsimp only;rw[hpg]
      cases EN ib (B6 b) (g - (k+1)) nx with
      |none=>rfl
      |some r=>simp
   .intro h2;replace h2:=AV h2;have hkg:k=g:=by omega
    subst hkg;rw[qc6,Af3]at hpg;rw[hpg]at hP;simp only[qbd,qa2]at hP;have hxx:Ext [] w0 w:=hx0 H.ext;have Rm:=OS.rd O (fun x hx=>H.blk x (qax _ hx)) (fun _ _=>rfl) (by decide);obtain⟨wE,rfl⟩:=qD w;have hb7:wE.heap[b7]?=some (Bl 183 [.bool ib,.slice aa ms.length cc]):=H.get at0
    have hbs:b2≠b7:=fun e=>by
     have h5:=H.nd;simp[e]at h5
    have Hq:=H;have H:=Ctx.start1 (Hq.get at1);have hkeep:∀{z:World},Ext [b2] wE z->z.heap[b7]?=some (Bl 183 [.bool ib,.slice aa ms.length cc]):=fun{z} h=>by rw[h.block b7 (Al hb7) (by simp;exact fun e=>hbs e.symm)];exact hb7
    have hits:∀{z:World},Ext [b2] wE z->Its z (Old w0) aa ms.length cc (ms.map (·.it))/\∀y∈ms.map (·.it),OkL (B6 b) y:=fun{z} hz=>by
     have hS:∀y∈[b2],w0.heap.size<=y/\y∈(([(b7,Bl 183 [.bool ib,.slice aa ms.length cc]),(b2,Bl 183 [.bool false,.slice none 0 0])]++ent aa 185 full).map (·.1)):=fun y hy=>by
      rw[qaa.1 hy];exact⟨hge,by simp⟩
     have G:Grown (Af1 w0 (([(b7,Bl 183 [.bool ib,.slice aa ms.length cc]),(b2,Bl 183 [.bool false,.slice none 0 0])]++ent aa 185 full).map (·.1))) (Af1 w0 (([(b7,Bl 183 [.bool ib,.slice aa ms.length cc]),(b2,Bl 183 [.bool false,.slice none 0 0])]++ent aa 185 full).map (·.1))) wE z:=⟨⟨[b2],fun y hy => .inr (hS y hy).2,hz⟩,fun y hy => .inl hy⟩;refine⟨⟨⟨ms,?_,?_,rfl,fun m hm=>((hms m hm).1.turn G).weak fun y hy => .inl hy⟩,by rw[qal],O.le⟩,fun y hy=>?_⟩
     .cases haa:aa with
      |none =>
       have h8:=O.le;have h9:=O.none' haa;rw[qa9 (show ms.length=0 by omega)];exact Rd.nil
      |some q =>
       rw[<-haa];refine Rm.ext hz fun hq=>?_;have h5:=Hq.nd;rw[haa]at h5 hq;simp only[qaa,adr]at hq;simp[ent,hq]at h5
     .cases haa:aa with
      |none=>exact .inl (qa9 (by have h8:=O.le;have h9:=O.none' haa;omega))
      |some q =>
       refine .inr fun hq=>?_;have h5:=Hq.own (q.block,Bl 185 full) (qax _ (by rw[haa];exact qaa.2 rfl));have h6:=Hold.ext.size;unfold Old at hq;simp only[adr]at hq
       rcases h5 with h5|h5
       .have:=qaa.1 h5;dsimp only at this;omega
       .dsimp only at h5;omega
     .obtain⟨m,hm,rfl⟩:=qah.1 hy;exact(hms m hm).2
    refine B9 (A8 (A8 (Bd (Aa (BR [([0,1,2,3,4,5,6,7,8,9,10],11),([],12)] (fun z=>z.heap[b7]?=some (Bl 183 [.bool ib,.slice aa ms.length cc])) [] mixed (hb7) ?_)))));refine AB U U (ON _ BH Ba U U (fun _ hx=>(fun j v hv=>by rw[Ap hx,qa3];exact hv)) ?_);refine BM U (Cg U (Qh AW U (t_eql U U U (U5 U U (Qg 73 U ?_ ?_)))))
    .intro h3;replace h3:=AU h3;have h3':at'=(B6 b).length:=by omega
     refine AE Bq U (BJ BK U (fun _ hx=>Ap hx (0+1)) ?_);refine Qh Br U (Ajw U U U (Ah4 U U (.bool _) U (Bm ?_)));replace H:=H.drew;refine Bi Ba U U U (by simp[Bg]) H at0 U ?_;rintro w H;refine Ab (Bb (hkeep H.ext) (AB U U ?_));refine Bm (Am U (Ab (Bb (hkeep H.ext) (B3 (Ax (Dh U U U BH Ba H at0 U (show _=(.bool _)from rfl) ?_))))));refine⟨ib,aa,ms.length,cc,?_,hx0 (Hq.ext.then H.ext fun y hy => .inl hy),fun i L h=>?_⟩
     .rw[hP]
      cases ms with
      |nil=>simp[VU]
      |cons m ms=>simp[VU,h3']
     .rw[hP]at h;simp only[VU]at h
      split at h
      .injection h with h
       injection h with h5 h6
       subst h5 h6;exact⟨rfl,hits H.ext⟩
      .cases h
    .intro h3;replace h3:=AV h3;have h3':¬at'=(B6 b).length:=by omega
     have hP':DZ b=none:=by rw[hP];simp[VU,h3']
     refine DJ U (DJ U (DJ U (DJ U (Ah5 U U (.bool _) U (Bm ?_)))));replace H:=H.drew;refine Bi Ba U U U (by simp[Bg]) H at0 U ?_;rintro w H;refine Ab (Bb (hkeep H.ext) (AB U U ?_));refine Bm (Am U (Ab (Bb (hkeep H.ext) (B3 (Ax (Dh U U U BH Ba H at0 U (show _=(.bool _)from rfl) ?_))))));exact⟨ib,aa,ms.length,cc,by rw[hP'];rfl,hx0 (Hq.ext.then H.ext fun y hy => .inl hy),fun i L h=>by rw[hP']at h;cases h⟩
def stv(s:Nat):Value := .int .u8 (s:Int)
def TPg:Nat:=145
def TSt:Nat:=146
structure PgAt(w:World)(bp ba:Nat)(P:List Nat):Prop where
 hd:w.heap[bp]?=some (Bl TPg [.slice (some ⟨ba,0,none⟩) P.length P.length])
 st:w.heap[ba]?=some (Bl TSt (P.map stv))
 ne:bp≠ba
 ok:∀s∈P,s<=3
 len:P.length<=4096
def CF(P:List Nat):Nat:=(P.takeWhile fun s=>decide (s≠0)).length
def Ef(P:List Nat)(k:Nat):List Nat:=if P[k]?=some 1 then P.set k 3 else if P[k]?=some 2 then P.set k 0 else P
def BD(s:Nat):Nat:=if s=2 then 1 else if s=3 then 0 else s
def Dm(s:Nat):Nat:=if s=2 then 0 else if s=3 then 1 else s
def Dn(P:List Nat):Nat:=P.countP fun s=>decide (s=0)
theorem PgAt.keep{w w':World}{bp ba:Nat}{P:List Nat}{S:List Nat}(h:PgAt w bp ba P)(hx:Ext S w w')(h1:bp∉S)(h2:ba∉S):PgAt w' bp ba P :=
 ⟨by rw[hx.block bp (Al h.hd) h1];exact h.hd,by rw[hx.block ba (Al h.st) h2];exact h.st,h.ne,h.ok,h.len⟩
theorem Lo{w:World}{ba t:Nat}{P:List Nat}{k s:Nat}(h:w.heap[ba]?=some (Bl t (P.map stv)))(hk:P[k]?=some s):w.cell? ⟨ba,0+k*1,none⟩=some (stv s):=by
 rw[Ap h,qa3,qch,qav,hk];rfl
theorem Al9(P:List Nat)(k s:Nat):(P.map stv).set k (stv s)=(P.set k s).map stv:=by rw[qdt]
theorem PgAt.set{w w':World}{bp ba:Nat}{P:List Nat}(h:PgAt w bp ba P)(hx:Ext [ba] w w'){k s:Nat}(hs:s<=3)(hb:w'.heap[ba]?=some (Bl TSt ((P.map stv).set k (stv s)))):PgAt w' bp ba (P.set k s) :=
 ⟨by rw[hx.block bp (Al h.hd) (by simpa using h.ne),qcf];exact h.hd,by rw[hb,Al9],h.ne,fun x hx=>(qe6 hx).elim (h.ok x) (fun e=>e ▸ hs),by rw[qcf];exact h.len⟩
section
variable {w:World}{bp ba:Nat}{P:List Nat}
theorem Nv(h:PgAt w bp ba P):Ret prog 114 #[ptr bp] w fun v w'=>v=.int .i64 (P.length:Int)/\w=w':=by
 obtain⟨w0,rfl⟩:=qD w;refine A6 (fn:=f114) func114 U [.pointer (some ⟨bp,0,none⟩)] U ?_;refine Ad (Ac U (qA (Ar (Ad (An U (BN Q6 U ?_))))));refine qA (Bw U (Aq (Aa (Ad (An U (Ay U (Af DF U (Bf F7 U (Ap h.hd (0+0)) ?_))))))));refine AO Ep U (Ac U (qA (Ax (AH (v:=(.int _ _)) U U U ?_))));exact⟨rfl,rfl⟩
def Nw(P:List Nat)(k:Int):Bool:=decide (0<=k) && decide (k<(P.length:Int))
theorem Zz(h:PgAt w bp ba P)(k:Int):Ret prog 150 #[ptr bp,.int .i64 k] w fun v w'=>v=.bool (Nw P k)/\w=w':=by
 obtain⟨w0,rfl⟩:=qD w;refine A6 (fn:=f150) func150 U [.pointer (some ⟨bp,0,none⟩),.int .i64 k] U ?_;refine Ad (Am U (qA (Ad (An U (SV U Q6 U ?_)))));refine AC U (Ae U (HN U U (AQ U (.bool _) U (AC U (AX 11 U ?_ ?_)))))
 .intro h1;replace h1:=AU h1;refine Ae U (An U (Ay U (Af DF U (Bf F7 U (Ap h.hd (0+0)) ?_))));refine AO Ep U (Bt U U (AQ U (.bool _) U (Am U (qA (Ax (AH (v:=(.bool _)) U U U ?_))))));exact⟨qac Value.bool (by unfold Nw;rw[qar];simp_all;try omega),rfl⟩
 .intro h2;replace h2:=AV h2;refine Ak U (Ak U (Ak U (Ak U (Ak U (Ak U (Ak U (AN U (.bool _) U (Am U (qA ?_)))))))));refine Ax (AH (v:=(.bool _)) U U U ?_);exact⟨qac Value.bool (by unfold Nw;rw[qar];simp_all;try omega),rfl⟩
theorem UP(h:PgAt w bp ba P)(k:Int):Ret prog 132 #[ptr bp,.int .i64 k] w fun v w'=>v=.int .i64 (bif Nw P k then 0 else 1)/\w=w':=by
 obtain⟨w0,rfl⟩:=qD w;refine A6 (fn:=f132) func132 U [.pointer (some ⟨bp,0,none⟩),.int .i64 k] U ?_;refine Ad (Ac U (qA (Ar (AD (Ad (An U (BN Q6 U ?_)))))));refine Am U (qA (Bw U (Ad (An U (Ae U (Ah qB (Zz h k) U ?_))))));rintro v w ⟨rfl,rfl⟩;refine Cl U (Am U (qA (Au _ U ?_ ?_)))
 .intro h1;replace h1:=CJ h1;refine Ad (Ac U (qA (Ax (AL (Ao (AH (v:=(.int _ _)) U U U ?_))))));exact⟨by rw[show Nw P k=false by simpa using h1];rfl,rfl⟩
 .intro h1;replace h1:=CK h1;refine Aq (AF (Aa (Ad (Ac U (qA (Ax (AH (v:=(.int _ _)) U U U ?_)))))));exact⟨by rw[show Nw P k=true by simpa using h1];rfl,rfl⟩
theorem VW{P:List Nat}{k:Nat}(h1:∀j x,j<k->P[j]?=some x->x≠0)(hk:k<=P.length)(h2:∀x,P[k]?=some x->x=0):CF P=k :=
 GR (fun j x hj hx=>qam (h1 j x hj hx)) hk fun x hx=>qai (fun h=>h (h2 x hx))
theorem Af6(h:PgAt w bp ba P):Ret prog 157 #[ptr bp] w fun v w'=>(CF P<P.length/\v=.tuple #[.int .i64 (CF P:Int),.int .i64 0]/\PgAt w' bp ba (P.set (CF P) 2)/\Ext [ba] w w')\/(CF P=P.length/\v=.tuple #[.int .i64 0,.int .i64 7]/\w=w'):=by
 obtain⟨w0,rfl⟩:=qD w;have hlen:=h.len;refine A6 (fn:=f157) func157 U [.pointer (some ⟨bp,0,none⟩)] U ?_;refine Ad (Ac U (Ac U (qA (Ar (Ad (An U (BN Q6 U ?_)))))));refine qA (Bw U (Aq (Aa (Ar (Ad (An U (Ay U (Af DF U (Bf F7 U (Ap h.hd (0+0)) ?_)))))))));refine AO Ep U (Ae U (qA (AD (BF 268427324 (α:=Nat) (fun i=>[(13,.int .i64 (i:Int))]) (fun i w'=>w0=w'/\i<=P.length/\∀j x,j<i->P[j]?=some x->x≠0) (fun i=>P.length - i) 0 U ?_ ?_ ?_))))
 .exact⟨rfl,trivial⟩
 .exact⟨rfl,qak _,fun j x hj=>absurd hj (qcp _)⟩
 .rintro i j w ⟨rfl,hi,hb⟩;refine Ad (Bt U U (qA (Ar (Au _ U ?_ ?_))))
  .intro h1;replace h1:=AU h1;obtain⟨s,hs⟩:=AR (l:=P) (i:=i);have hs3:=h.ok s (qad hs);refine Aq (Aa (Ar (AD (Ad (Ae U (BT Ep DV U U ?_))))));refine Bf NU U (Lo h.st hs) ?_;refine Ac U (Ac U (qA (Ad (Ae U (B1 U U (qA (Au _ U ?_ ?_)))))))
   .intro h2;replace h2:=AU h2;have ht:CF P=i:=VW hb hi (fun x hx=>by rw[hs]at hx;cases hx;omega);have H:=Ctx.start1 h.st;refine Ad (An U (Ay U (Af DF U (Bf F7 U (Ap h.hd (0+0)) ?_))));refine Ae U (BT Ep DV U U ?_);refine Bc (.int _ _) DV U U U H at0 (by(simp;omega)) ?_;rintro w H;refine qA (Ad (Ae U (Ac U (Ac U (qA (Ax (AL (Ao (Ao (AL (Ao (Ce (v1:=(.int _ _)) (v2:=(.int _ _)) U U U U ?_))))))))))));refine .inl ⟨by omega,by rw[ht],?_,H.ext⟩;rw[ht];exact h.set H.ext (by decide) (by rw[H.get at0];simp[stv])
   .intro h2;replace h2:=AV h2;refine Aq (AF (Aa (Av (AA U U ?_))));refine Ae U (qA ?_);refine⟨i+1,rfl,⟨rfl,trivial⟩,⟨rfl,by omega,fun j x hj hx=>?_⟩,by omega⟩
    rcases qbk j i with h3|h3
    .exact hb j x h3 hx
    .obtain rfl:j=i:=by omega
     rw[hs]at hx;cases hx;omega
  .intro h1;replace h1:=AV h1
   have ht:CF P=P.length:=by
    have hii:i=P.length:=by omega
    subst hii;exact VW hb (qaf _) (fun x hx=>by have:=(qaq.1 hx).1;omega)
   refine B9 (A8 (A8 (Bd (Aa (Ad (Ac U (Ac U (qA (Ax (Ce (v1:=(.int _ _)) (v2:=(.int _ _)) U U U U ?_))))))))));exact .inr ⟨ht,rfl,rfl⟩
theorem VX(h:PgAt w bp ba P)(k:Nat)(hk:k<P.length):Ret prog 94 #[ptr bp,.int .i64 (k:Int)] w fun v w'=>(∃e,v=.int .i64 e)/\PgAt w' bp ba (Ef P k)/\Ext [ba] w w':=by
 obtain⟨w0,rfl⟩:=qD w;have hlen:=h.len;obtain⟨s,hs⟩:=AR (l:=P) (i:=k) (h:=hk);have hs3:=h.ok s (qad hs);have hh:Nw P (k:Int)=true:=by unfold Nw;simp;omega
 have H:=Ctx.start1 h.st;have hpz:∀{z:World},Ext [ba] w0 z->z.heap[bp]?=some (Bl TPg [.slice (some ⟨ba,0,none⟩) P.length P.length]):=fun{z} hz=>by rw[hz.block bp (Al h.hd) (by simpa using h.ne)];exact h.hd
 refine A6 (fn:=f94) func94 U [.pointer (some ⟨bp,0,none⟩),.int .i64 (k:Int)] U ?_;refine Ad (Ac U (qA (Ar (Ad (An U (Ae U (Ah qB (UP h (k:Int)) U ?_)))))));rintro v w ⟨rfl,rfl⟩;rw[hh];refine Ac U (qA (Ad (Ae U (AZ U U (qA (Bw U (Aq (Aa (Ar (Ad ?_))))))))));refine An U (Ay U (Af DF U (Bf F7 U (Ap (hpz H.ext) (0+0)) ?_)));refine Ae U (BT Ep DV U U ?_);refine Bf NU U (Lo (H.get at0) hs) (qA (AD (Ad (B1 U U (Am U (qA (Au _ U ?_ ?_)))))))
 .intro h1;replace h1:=AU h1;have h1':P[k]?=some 1:=by rw[hs];congr 1;omega
  refine Av (An U (Ay U (Af DF U (Bf F7 U (Ap (hpz H.ext) (0+0)) ?_))));refine Ae U (BT Ep DV U U ?_);refine Bc (.int _ _) DV U U U H at0 (by(simp;omega)) ?_;rintro w H;refine Ab (AF (Aa (Ad (Ac U (qA (Ax (AH (v:=(.int _ _)) U U U ?_)))))));exact⟨⟨_,rfl⟩,by rw[Ef,if_pos h1'];exact h.set H.ext (by decide) (by rw[H.get at0];simp[stv]),H.ext⟩
 .intro h1;replace h1:=AV h1;have h1':¬P[k]?=some 1:=by rw[hs];intro e;cases e;omega
  refine Ad (B1 U U (Am U (qA (Au _ U ?_ ?_))))
  .intro h2;replace h2:=AU h2;have h2':P[k]?=some 2:=by rw[hs];congr 1;omega
   refine Av (An U (Ay U (Af DF U (Bf F7 U (Ap (hpz H.ext) (0+0)) ?_))));refine Ae U (BT Ep DV U U ?_);refine Bc (.int _ _) DV U U U H at0 (by(simp;omega)) ?_;rintro w H;refine Ab (AF (Aa (Ad (Ac U (qA (Ax (AH (v:=(.int _ _)) U U U ?_)))))));exact⟨⟨_,rfl⟩,by rw[Ef,if_neg h1',if_pos h2'];exact h.set H.ext (by decide) (by rw[H.get at0];simp[stv]),H.ext⟩
  .intro h2;replace h2:=AV h2;have h2':¬P[k]?=some 2:=by rw[hs];intro e;cases e;omega
   refine Ad (Ac U (qA (Ax (AL (Ao (AH (v:=(.int _ _)) U U U ?_))))));exact⟨⟨_,rfl⟩,by rw[Ef,if_neg h1',if_neg h2'];exact h,H.ext⟩
theorem Yn(h:PgAt w bp ba P):Ret prog 56 #[ptr bp] w fun v w'=>v=.int .i64 0/\PgAt w' bp ba (P.map BD)/\Ext [ba] w w':=by
 obtain⟨w0,rfl⟩:=qD w;have hlen:=h.len;have H:=Ctx.start1 h.st;have hpz:∀{z:World},Ext [ba] w0 z->z.heap[bp]?=some (Bl TPg [.slice (some ⟨ba,0,none⟩) P.length P.length]):=fun{z} hz=>by rw[hz.block bp (Al h.hd) (by simpa using h.ne)];exact h.hd
 refine A6 (fn:=f56) func56 U [.pointer (some ⟨bp,0,none⟩)] U ?_;refine Ad (Ac U (qA (Ar (Ad (An U (BN Q6 U ?_))))));refine qA (Bw U (Aq (Aa (Ar (Ad (An U (Ay U (Af DF U (Bf F7 U (Ap (hpz H.ext) (0+0)) ?_)))))))));refine AO Ep U (Ae U (qA (AD (BF 34359734296 (α:=Nat) (fun i=>[(12,.int .i64 (i:Int))]) (fun i w'=>i<=P.length/\Ctx w0 [ba] w' [(ba,Bl TSt (((P.take i).map BD++P.drop i).map stv))]) (fun i=>P.length - i) 0 U ?_ ?_ ?_))))
 .exact⟨rfl,trivial⟩
 .exact⟨qak _,H⟩
 .rintro i j w ⟨hi,H⟩;refine Ad (Bt U U (qA (Ar (Au _ U ?_ ?_))))
  .intro h1;replace h1:=AU h1;obtain⟨s,hs⟩:=AR (l:=P) (i:=i);have hs3:=h.ok s (qad hs);have hlt:((P.take i).map BD).length=i:=by rw[qal,qa1];omega
   have hmid:((P.take i).map BD++P.drop i)[i]?=some s:=by
    rw[qc2 (by omega),hlt,qc6,qct,qc3,hs]
   have hset:∀x,BD s=x->((P.take i).map BD++P.drop i).set i x=(P.take (i+1)).map BD++P.drop (i+1):=fun x hx=>by
    rw[qe7 _ _ (by omega),hlt,qc6,Bx hs,qaz,qa0]
    congr 1
    rw[EI hs,qew,qex,hx];rfl
   have hsame:BD s=s->(P.take i).map BD++P.drop i=(P.take (i+1)).map BD++P.drop (i+1):=fun hx=>by
    rw[Bx hs,qaz,qa0]
    congr 1
    rw[EI hs,qex,hx];rfl
   refine Aq (Aa (Ar (AD (Ad (Ae U (BT Ep DV U U ?_))))));refine Bf NU U (Lo (H.get at0) hmid) (Ac U (Ac U (qA (Ad (Ae U (qA (AD (Ad (B1 U U (Am U ?_))))))))));refine qA (Au _ U ?_ ?_)
   .intro h2;replace h2:=AU h2;have he:BD s=1:=by unfold BD;rw[if_pos (by omega)]
    refine Av (An U (Ay U (Af DF U (Bf F7 U (Ap (hpz H.ext) (0+0)) ?_))));refine Ae U (BT Ep DV U U ?_);refine Bc (.int _ _) DV U U U H at0 (by(simp;omega)) ?_;rintro w H;refine Ab (AF (AF (Aa (Av (AA U U ?_)))));refine Ae U (qA ?_);have hs2:=hset _ he;rw[show(((P.take i).map BD++P.drop i).map stv).set (0+((i:Int)).toNat*1) (.int .u8 1)=(((P.take i).map BD++P.drop i).set i 1).map stv by rw[qdt];simp[stv]]at H;rw[hs2]at H;exact⟨i+1,rfl,⟨rfl,trivial⟩,⟨by omega,H⟩,by omega⟩
   .intro h2;replace h2:=AV h2;refine Ad (B1 U U (Am U (qA (Au _ U ?_ ?_))))
    .intro h3;replace h3:=AU h3;have he:BD s=0:=by unfold BD;rw[if_neg (by omega),if_pos (by omega)]
     refine Av (An U (Ay U (Af DF U (Bf F7 U (Ap (hpz H.ext) (0+0)) ?_))));refine Ae U (BT Ep DV U U ?_);refine Bc (.int _ _) DV U U U H at0 (by(simp;omega)) ?_;rintro w H;refine Ab (AF (AF (Aa (Av (AA U U ?_)))));refine Ae U (qA ?_);have hs2:=hset _ he;rw[show(((P.take i).map BD++P.drop i).map stv).set (0+((i:Int)).toNat*1) (.int .u8 0)=(((P.take i).map BD++P.drop i).set i 0).map stv by rw[qdt];simp[stv]]at H;rw[hs2]at H;exact⟨i+1,rfl,⟨rfl,trivial⟩,⟨by omega,H⟩,by omega⟩
    .intro h3;replace h3:=AV h3;have he:BD s=s:=by unfold BD;rw[if_neg (by omega),if_neg (by omega)]
     rw[hsame he]at H;refine Aq (AF (AF (Aa (Av (AA U U ?_)))));refine Ae U (qA ?_);exact⟨i+1,rfl,⟨rfl,trivial⟩,⟨by omega,H⟩,by omega⟩
  .intro h1;replace h1:=AV h1;have hii:i=P.length:=by omega
   subst hii;rw[qbb,List.drop_length,qa2]at H;refine B9 (A8 (A8 (Bd (Aa (Ad (Ac U (qA (Ax (AH (v:=(.int _ _)) U U U ?_)))))))));refine⟨rfl,⟨by rw[hpz H.ext,qal],H.get at0,h.ne,fun x hx=>?_,by rw[qal];exact hlen⟩,H.ext⟩;obtain⟨y,hy,rfl⟩:=qah.1 hx;have:=h.ok y hy;unfold BD
   split
   .omega
   .split <;> omega
theorem Af7(h:PgAt w bp ba P):Ret prog 91 #[ptr bp] w fun v w'=>v=.int .i64 0/\PgAt w' bp ba (P.map Dm)/\Ext [ba] w w':=by
 obtain⟨w0,rfl⟩:=qD w;have hlen:=h.len;have H:=Ctx.start1 h.st;have hpz:∀{z:World},Ext [ba] w0 z->z.heap[bp]?=some (Bl TPg [.slice (some ⟨ba,0,none⟩) P.length P.length]):=fun{z} hz=>by rw[hz.block bp (Al h.hd) (by simpa using h.ne)];exact h.hd
 refine A6 (fn:=f91) func91 U [.pointer (some ⟨bp,0,none⟩)] U ?_;refine Ad (Ac U (qA (Ar (Ad (An U (BN Q6 U ?_))))));refine qA (Bw U (Aq (Aa (Ar (Ad (An U (Ay U (Af DF U (Bf F7 U (Ap (hpz H.ext) (0+0)) ?_)))))))));refine AO Ep U (Ae U (qA (AD (BF 34359734296 (α:=Nat) (fun i=>[(12,.int .i64 (i:Int))]) (fun i w'=>i<=P.length/\Ctx w0 [ba] w' [(ba,Bl TSt (((P.take i).map Dm++P.drop i).map stv))]) (fun i=>P.length - i) 0 U ?_ ?_ ?_))))
 .exact⟨rfl,trivial⟩
 .exact⟨qak _,H⟩
 .rintro i j w ⟨hi,H⟩;refine Ad (Bt U U (qA (Ar (Au _ U ?_ ?_))))
  .intro h1;replace h1:=AU h1;obtain⟨s,hs⟩:=AR (l:=P) (i:=i);have hs3:=h.ok s (qad hs);have hlt:((P.take i).map Dm).length=i:=by rw[qal,qa1];omega
   have hmid:((P.take i).map Dm++P.drop i)[i]?=some s:=by
    rw[qc2 (by omega),hlt,qc6,qct,qc3,hs]
   have hset:∀x,Dm s=x->((P.take i).map Dm++P.drop i).set i x=(P.take (i+1)).map Dm++P.drop (i+1):=fun x hx=>by
    rw[qe7 _ _ (by omega),hlt,qc6,Bx hs,qaz,qa0]
    congr 1
    rw[EI hs,qew,qex,hx];rfl
   have hsame:Dm s=s->(P.take i).map Dm++P.drop i=(P.take (i+1)).map Dm++P.drop (i+1):=fun hx=>by
    rw[Bx hs,qaz,qa0]
    congr 1
    rw[EI hs,qex,hx];rfl
   refine Aq (Aa (Ar (AD (Ad (Ae U (BT Ep DV U U ?_))))));refine Bf NU U (Lo (H.get at0) hmid) (Ac U (Ac U (qA (Ad (Ae U (qA (AD (Ad (B1 U U (Am U ?_))))))))));refine qA (Au _ U ?_ ?_)
   .intro h2;replace h2:=AU h2;have he:Dm s=0:=by unfold Dm;rw[if_pos (by omega)]
    refine Av (An U (Ay U (Af DF U (Bf F7 U (Ap (hpz H.ext) (0+0)) ?_))));refine Ae U (BT Ep DV U U ?_);refine Bc (.int _ _) DV U U U H at0 (by(simp;omega)) ?_;rintro w H;refine Ab (AF (AF (Aa (Av (AA U U ?_)))));refine Ae U (qA ?_);have hs2:=hset _ he;rw[show(((P.take i).map Dm++P.drop i).map stv).set (0+((i:Int)).toNat*1) (.int .u8 0)=(((P.take i).map Dm++P.drop i).set i 0).map stv by rw[qdt];simp[stv]]at H;rw[hs2]at H;exact⟨i+1,rfl,⟨rfl,trivial⟩,⟨by omega,H⟩,by omega⟩
   .intro h2;replace h2:=AV h2;refine Ad (B1 U U (Am U (qA (Au _ U ?_ ?_))))
    .intro h3;replace h3:=AU h3;have he:Dm s=1:=by unfold Dm;rw[if_neg (by omega),if_pos (by omega)]
     refine Av (An U (Ay U (Af DF U (Bf F7 U (Ap (hpz H.ext) (0+0)) ?_))));refine Ae U (BT Ep DV U U ?_);refine Bc (.int _ _) DV U U U H at0 (by(simp;omega)) ?_;rintro w H;refine Ab (AF (AF (Aa (Av (AA U U ?_)))));refine Ae U (qA ?_);have hs2:=hset _ he;rw[show(((P.take i).map Dm++P.drop i).map stv).set (0+((i:Int)).toNat*1) (.int .u8 1)=(((P.take i).map Dm++P.drop i).set i 1).map stv by rw[qdt];simp[stv]]at H;rw[hs2]at H;exact⟨i+1,rfl,⟨rfl,trivial⟩,⟨by omega,H⟩,by omega⟩
    .intro h3;replace h3:=AV h3;have he:Dm s=s:=by unfold Dm;rw[if_neg (by omega),if_neg (by omega)]
     rw[hsame he]at H;refine Aq (AF (AF (Aa (Av (AA U U ?_)))));refine Ae U (qA ?_);exact⟨i+1,rfl,⟨rfl,trivial⟩,⟨by omega,H⟩,by omega⟩
  .intro h1;replace h1:=AV h1;have hii:i=P.length:=by omega
   subst hii;rw[qbb,List.drop_length,qa2]at H;refine B9 (A8 (A8 (Bd (Aa (Ad (Ac U (qA (Ax (AH (v:=(.int _ _)) U U U ?_)))))))));refine⟨rfl,⟨by rw[hpz H.ext,qal],H.get at0,h.ne,fun x hx=>?_,by rw[qal];exact hlen⟩,H.ext⟩;obtain⟨y,hy,rfl⟩:=qah.1 hx;have:=h.ok y hy;unfold Dm
   split
   .omega
   .split <;> omega
theorem VY{P:List Nat}{i s:Nat}(h:P[i]?=some s):Dn (P.take (i+1))=Dn (P.take i)+if s=0 then 1 else 0:=by
 unfold Dn;rw[Bx h,List.countP_append]
 by_cases hs:s=0 <;> simp[hs]
theorem Af8(P:List Nat):Dn P<=P.length:=List.countP_le_length
theorem Abc(h:PgAt w bp ba P)(k:Nat){s:Nat}(hk:P[k]?=some s):Ret prog 122 #[ptr bp,.int .i64 (k:Int)] w fun v w'=>v=.int .u8 (s:Int)/\w=w':=by
 obtain⟨w0,rfl⟩:=qD w;have hlen:=h.len;have hkl:=XD hk;have hs3:=h.ok s (qad hk);have hh:Nw P (k:Int)=true:=by unfold Nw;simp;omega
 refine A6 (fn:=f122) func122 U [.pointer (some ⟨bp,0,none⟩),.int .i64 (k:Int)] U ?_;refine Ad (Ac U (qA (Ar (Ad (An U (Ae U (Ah qB (Zz h (k:Int)) U ?_)))))));rintro v w ⟨rfl,rfl⟩;rw[hh];refine Cl U (qA (Bw U (Aq (Aa (Ad (An U (Ay U (Af DF U (Bf F7 U (Ap h.hd (0+0)) ?_)))))))));refine Ae U (BT Ep DV U U ?_);refine Bf NU U (Lo h.st hk) (Ac U (qA (Ax (AH (v:=(.int _ _)) U U U ?_))));exact⟨rfl,rfl⟩
end
theorem Aiq(n:Nat)(h1:1<=n)(h2:n<=4096)(w:World):Ret prog 78 #[.int .i64 (n:Int)] w fun v w'=>∃bp ba,v=.tuple #[ptr bp,.int .i64 0]/\PgAt w' bp ba (List.replicate n 0)/\Ext [] w w'/\w.heap.size<=bp/\w.heap.size<=ba:=by
 obtain⟨w0,rfl,H⟩:=qE w;refine A6 (fn:=f78) func78 U [.int .i64 (n:Int)] U (Ad (B5 U (Ac U (qA (Ar (Ad (Ae U (Bt U U ?_))))))));rw[qai (show ¬(n:Int)<1 by omega)];refine AC U (Ae U (Ci U U ?_));rw[qai (show ¬(4096:Int)<(n:Int)by omega)];refine AN U (.bool _) U (qA (Bw U (Aq (Aa (Ad (Ae U (MJ U Ep DV Ak0 Al0 U U H ?_)))))));rintro b11 w - H;rw[qbm]at H;rw[qbm];refine B0 [.slice (some ⟨b11,0,none⟩) n n] Alu Alz ?_;refine Co [.slice (some ⟨b11,0,none⟩) n n] (.agg _) U U H ?_;rintro b13 w - H;refine B5 U (Ac U (qA (Ax (Ce (v1:=(.pointer _)) (v2:=(.int _ _)) U U U U ?_))));have hn:=H.nd
 refine⟨b13,b11,rfl,⟨by rw[H.get at0,qa8];rfl,by rw[H.get at1];simp[stv,TSt],fun e=>by simp[e]at hn,fun s hs=>by rw[(qec.1 hs).2];decide,by rw[qa8];exact h2⟩,H.ext,(H.own _ (qae ..)).elim (fun h=>by cases h) id,(H.own _ (qag _ (qae ..))).elim (fun h=>by cases h) id⟩
theorem Its.past{w w1 w2:World}{a:Option Addr}{n c:Nat}{L:List It}{S:List Nat}(I:Its w (Old w1) a n c L)(he:Ext S w w2)(hS:∀x∈S,x<w1.heap.size):Its w2 (Old w1) a n c L :=
 I.turn ⟨⟨S,hS,he⟩,fun _ h => .inl h⟩
def TT:Nat:=162
def Pa(bd bp fr:Nat):List Value:=[ptr bd,ptr bp,.int .i64 (fr:Int)]
structure Tx(w:World)(bt bd bp ba fr:Nat)(A:Dev)(P:List Nat)(F:Mut)(L:List (Nat × Obj)):Prop where
 tr:w.heap[bt]?=some (Bl TT (Pa bd bp fr))
 pg:PgAt w bp ba P
 dev:DevAt w bd A F
 blk:∀x∈L,w.heap[x.1]?=some x.2
 nd:L.Pairwise fun x y=>x.1≠y.1
 off:∀x∈L,¬F x.1/\x.1≠ba/\x.1≠bt/\x.1≠bp
 nbt:¬F bt/\bt≠ba
 nbp:¬F bp
 nba:¬F ba
 lt:∀x,F x->x<w.heap.size
def TM(F:Mut)(ba bt bp:Nat)(L:List (Nat × Obj)):Mut:=fun x=>F x\/x=ba\/x=bt\/x=bp\/x∈L.map (·.1)
section
variable {w w':World}{bt bd bp ba fr:Nat}{A A':Dev}{P P':List Nat}{F F':Mut}{L L':List (Nat × Obj)}
theorem Tx.mlt(T:Tx w bt bd bp ba fr A P F L):∀x,TM F ba bt bp L x->x<w.heap.size:=fun x h=>by
 rcases h with h|rfl|rfl|rfl|h
 .exact T.lt x h
 .exact Al T.pg.st
 .exact Al T.tr
 .exact Al T.pg.hd
 .obtain⟨y,hy,rfl⟩:=qah.1 h;exact Al (T.blk y hy)
theorem Tx.ids(T:Tx w bt bd bp ba fr A P F L):∀x∈L.map (·.1),¬F x/\x≠ba/\x≠bt/\x≠bp:=fun x h=>by
 obtain⟨y,hy,rfl⟩:=qah.1 h;exact T.off y hy
theorem Tx.own(T:Tx w bt bd bp ba fr A P F L)(H:Ctx w (L.map (·.1)) w' L'):Tx w' bt bd bp ba fr A P F L'/\Grown (TM F ba bt bp L) (TM F ba bt bp L') w w':=by
 have hi:=T.ids;have hs:=H.ext.size
 have hnew:∀x∈L',¬F x.1/\x.1≠ba/\x.1≠bt/\x.1≠bp:=fun x hx=>by
  rcases H.own x hx with h|h
  .exact hi _ h
  .exact⟨fun hf=>by have:=T.lt _ hf;omega,fun e=>by have:=Al T.pg.st;omega,fun e=>by have:=Al T.tr;omega,fun e=>by have:=Al T.pg.hd;omega⟩
 refine⟨⟨?_,T.pg.keep H.ext (fun h=>(hi _ h).2.2.2 rfl) (fun h=>(hi _ h).2.1 rfl),T.dev.keep H.ext fun x h hf=>(hi x h).1 hf,H.blk,H.nd,hnew,T.nbt,T.nbp,T.nba,fun x h=>by have:=T.lt x h;omega⟩,⟨⟨L.map (·.1),fun x h => .inr (.inr (.inr (.inr h))),H.ext⟩,fun x h=>?_⟩⟩
 .rw[H.ext.block bt (Al T.tr) fun h=>(hi _ h).2.2.1 rfl];exact T.tr
 .rcases h with h|h|h|h|h
  .exact .inl (.inl h)
  .exact .inl (.inr (.inl h))
  .exact .inl (.inr (.inr (.inl h)))
  .exact .inl (.inr (.inr (.inr (.inl h))))
  .obtain⟨y,hy,rfl⟩:=qah.1 h;exact(H.own y hy).imp (fun h => .inr (.inr (.inr (.inr h)))) id
theorem Tx.ctx(T:Tx w bt bd bp ba fr A P F L):Ctx w (L.map (·.1)) w L:=Ctx.startL T.blk T.nd
theorem Tx.call(T:Tx w bt bd bp ba fr A P F L)(hx:Ext [] w w'):Tx w' bt bd bp ba fr A P F L:=(T.own (T.ctx.call hx)).1
theorem Grown.call0{F:Mut}(hx:Ext [] w w'):Grown F F w w':=⟨.of0 hx,fun _ h => .inl h⟩
theorem Tx.page(T:Tx w bt bd bp ba fr A P F L)(h:PgAt w' bp ba P')(hx:Ext [ba] w w'):Tx w' bt bd bp ba fr A P' F L/\Grown (TM F ba bt bp L) (TM F ba bt bp L) w w':=by
 have hs:=hx.size;refine⟨⟨?_,h,T.dev.keep hx fun x h hf=>by rw[qaa.1 h]at hf;exact T.nba hf,fun x hm=>?_,T.nd,T.off,T.nbt,T.nbp,T.nba,fun x h=>by have:=T.lt x h;omega⟩,⟨⟨[ba],fun x h => .inr (.inl (qaa.1 h)),hx⟩,fun x h => .inl h⟩⟩
 .rw[hx.block bt (Al T.tr) (by simpa using T.nbt.2)];exact T.tr
 .rw[hx.block x.1 (Al (T.blk x hm)) (by simpa using(T.off x hm).2.1)];exact T.blk x hm
theorem Tx.devs(T:Tx w bt bd bp ba fr A P F L)(h:DevAt w' bd A' F')(t:Turn F w w')(hF:∀x,F' x->F x\/(w.heap.size<=x/\x<w'.heap.size)):Tx w' bt bd bp ba fr A' P F' L/\Grown (TM F ba bt bp L) (TM F' ba bt bp L) w w':=by
 obtain⟨S,hS,hx⟩:=t;have hs:=hx.size;have hno:∀x,x<w.heap.size->¬F x->¬F' x:=fun x h1 h2 h3=>(hF x h3).elim h2 fun h=>by omega
 have hb:=Al T.tr;have hp:=Al T.pg.hd;have ha:=Al T.pg.st;refine⟨⟨?_,T.pg.keep hx (fun h=>T.nbp (hS _ h)) (fun h=>T.nba (hS _ h)),h,fun x hm=>?_,T.nd,fun x hm=>⟨hno _ (Al (T.blk x hm)) (T.off x hm).1,(T.off x hm).2⟩,⟨hno _ hb T.nbt.1,T.nbt.2⟩,hno _ hp T.nbp,hno _ ha T.nba,fun x h=>?_⟩,⟨⟨S,fun x h => .inl (hS x h),hx⟩,fun x h=>?_⟩⟩
 .rw[hx.block bt hb fun h=>T.nbt.1 (hS _ h)];exact T.tr
 .rw[hx.block x.1 (Al (T.blk x hm)) fun h=>(T.off x hm).1 (hS _ h)];exact T.blk x hm
 .rcases hF x h with h|h
  .have:=T.lt x h;omega
  .exact h.2
 .rcases h with h|h
  .exact(hF x h).imp .inl And.left
  .exact .inl (.inr h)
end
def Dc(A:Dev)(fr sz:Nat)(page depth:Int):Int × Option (Bool × List It) :=
 if 16<depth\/page<0\/(sz:Int)<=page then(9,none)
 else if Gc A ((fr:Int)+page)=0 then(match DZ (Gd A ((fr:Int)+page))with|none=>(9,none)|some n=>(0,some n))
 else(Gc A ((fr:Int)+page),none)
theorem Abd{A:Dev}(h:Wf A)(k:Int):(Gd A k).length<=512:=by
 unfold Gd
 by_cases h0:Gc A k=0
 .rw[qam h0,cond_true];unfold Gc at h0
  cases ho:A.on with
  |false=>rw[ho]at h0;cases h0
  |true =>
   cases hh:A.has k with
   |false=>rw[ho,hh]at h0;cases h0
   |true =>
    have hl:k.toNat<A.B.length:=by simp only[Dev.has,qao,qap]at hh;omega
    have hm:=Nl (d:=(zeros,([]:List Byt))) (h:=hl);unfold stands
    cases hg:(A.B.getD k.toNat (zeros,[])).2.getLast? with
    |none=>rw[Option.getD_none,h.sure _ hm];exact qaf _
    |some b=>rw[qdp,h.loose _ hm b (List.mem_of_getLast? hg)];exact qaf _
 .rw[qai h0];exact qak _
section
variable {w:World}{bt bd bp ba fr:Nat}{A:Dev}{P:List Nat}{F:Mut}{L:List (Nat × Obj)}
theorem QN(T:Tx w bt bd bp ba fr A P F L)(hfr:fr<=5000)(page depth:Int)(hp : -9223372036854775808<=page/\page<=9223372036854775807){mx:Nat}(hfew:Few A mx)(hmx:mx<=1000000000) :
  Ret prog 181 #[ptr bt,.int .i64 page,.int .i64 depth] w fun v w'=>∃(inner:Bool) (a:Option Addr) (n c:Nat),v=.tuple #[.agg #[.bool inner,.slice a n c],.int .i64 (Dc A fr P.length page depth).1]/\Ext [] w w'/\∀i M,(Dc A fr P.length page depth).2=some (i,M)->inner=i/\Its w' (Old w) a n c M/\∀x∈M,x.key.length<=505/\x.val.length<=505/\x.page<4294967296:=by
 obtain⟨w0,rfl,H⟩:=qE w;have hlen:=T.pg.len;obtain⟨rd,hrd⟩:=qD (Dc A fr P.length page depth);rw[<-hrd];unfold Dc at hrd;refine A6 (fn:=f181) func181 U [.pointer (some ⟨bt,0,none⟩),.int .i64 page,.int .i64 depth] U ?_;refine Ad (Be Cb H ?_);rintro b6 w - H;refine Ac U (qA (Ar (Ad (BB (α:=Unit) 134213632 (fun _=>[(26,.bool (decide (16<depth) || (decide (page<0) || decide ((P.length:Int)<=page))))]) (fun _ w'=>Ctx w0 [] w' [(b6,Bl 183 [.bool false,.slice none 0 0])]) U ?_ ?_))))
 .refine Ae U (Ci U U (AC U (AX 14 U ?_ ?_)))
  .intro h1;replace h1:=AU h1;refine Ak U (Ak U (AQ U (.bool _) U (AC U (Ak U (Ak U (Ak U (Ak U (Ak U (Ak U ?_)))))))));refine Ak U (AQ U (.bool _) U (Ab ?_));exact⟨rfl,(),rfl,⟨qac Value.bool (by rw[qar];simp;omega),trivial⟩,H⟩
  .intro h2;replace h2:=AV h2;refine Ae U (Bt U U (AN U (.bool _) U (AC U (AX 18 U ?_ ?_))))
   .intro h3;replace h3:=AU h3;refine Ak U (Ak U (Ak U (Ak U (Ak U (Ak U (Ak U (AQ U (.bool _) U (Ab ?_))))))));exact⟨rfl,(),rfl,⟨qac Value.bool (by rw[qar];simp;omega),trivial⟩,H⟩
   .intro h4;replace h4:=AV h4;refine Ae U (An U (Ay U (Af Kr U (Bf JQ U (Ap (T.call H.ext).tr (0+1)) ?_))));refine Ah qB (Nv (T.call H.ext).pg) U ?_;rintro v w ⟨rfl,rfl⟩;refine HN U U (AN U (.bool _) U (Ab ?_));exact⟨rfl,(),rfl,⟨qac Value.bool (by rw[qar];simp;omega),trivial⟩,H⟩
 rintro - j26 w H;refine Au _ U ?_ ?_
 .intro h1;rw[if_pos (by simpa using h1)]at hrd;refine Ad (B0 [.bool false,.slice none 0 0] Gp Cb ?_);refine Bi Ba U U U (by simp[Bg]) H at0 U ?_;rintro w H;refine Ac U (qA (Ax (Ao (Dh U U U BH Ba H at0 U (show _=(.int _ _)from rfl) ?_))));exact⟨false,none,0,0,by rw[hrd],H.ext,fun i M h=>by rw[hrd]at h;cases h⟩
 .intro h1;have hn1:¬(16<depth\/page<0\/(P.length:Int)<=page):=(by intro h5;have h6:(decide (16<depth) || (decide (page<0) || decide ((P.length:Int)<=page)))=true:=(by simpa using h5);rw[h1]at h6;cases h6);rw[if_neg hn1]at hrd;have hb6:=H.get at0;have hx6:=H.ext;obtain⟨wb,rfl⟩:=qD w;have Tb:=T.call hx6;refine Aq (Aa (BR [([0,1,2,3,4,5,6,7,8,9],10),([11,12,13,14],15)] (fun z=>Ext [] wb z) [] mixed (Ext.drew [] wb) ?_));refine AB U U (CE U (Bn U (AE VC U (BJ CY U (fun _ hx=>Ap (Tb.call hx).tr (0+0)) ?_))));refine CE U (Bn U (AE VD U (BJ DU U (fun _ hx=>Ap (Tb.call hx).tr (0+2)) ?_)));refine BM U (EF U U ?_);refine Bm ?_
  skip
  refine Ah qB (QF ((fr:Int)+page) hfew (Tb.call (Ext.drew [] wb)).dev) U ?_;rintro v w2 ⟨s39,rfl,F39⟩;obtain⟨a39,c39,rfl,R39,hc39⟩:=Fresh.rdB F39;refine Ab (Bb ((Ext.drew [] wb).trans F39.ext) (AB U U ?_));refine H1 U (Cu U U (Cu U U (HF U U (Bm (Ac U (Ab (Bb ((Ext.drew [] wb).trans F39.ext) (B3 (Ar ?_)))))))));have hx39:=(Ext.drew [] wb).trans F39.ext;replace H:=(show Ctx w0 [] wb [(b6,Bl 183 [.bool false,.slice none 0 0])]from H).call hx39;refine Ad (Ae U (AZ U U (qA (Au _ U ?_ ?_))))
  .intro h2;replace h2:=Bu h2;rw[if_neg h2]at hrd;refine Ad (B0 [.bool false,.slice none 0 0] Gp Cb ?_);refine Ae U (Bi Ba U U U (by simp[Bg]) H at0 U ?_);rintro w H;refine Ac U (qA (Ax (Ao (Dh U U U BH Ba H at0 U (show _=(.int _ _)from rfl) ?_))));exact⟨false,none,0,0,by rw[hrd],H.ext,fun i M h=>by rw[hrd]at h;cases h⟩
  .intro h2;replace h2:=Bv h2;rw[if_pos h2]at hrd;have hrl:=Abd T.dev.wf ((fr:Int)+page);refine Aq (Aa (Ad (Ai U (Ah qB (Af5 a39 c39 _ (Gd A ((fr:Int)+page)) _ R39 U hc39) U ?_))));have hb6l:=H.lt (k:=0) rfl;have hxw:=H.ext;rintro v w5 ⟨inner,aa,nn,cc,rfl,hx48,hits⟩;have Hold:=H.call hx48;replace H:=Ctx.startL (fun x hx=>Hold.blk x hx) Hold.nd;have hge:=(Hold.own _ (qae ..)).elim (fun h=>by cases h) id;refine AM U (Ag U U (Ag U U (Be Cb H ?_)));rintro b10 w - H;refine Bi Ba U U U (by simp[Bg]) H at0 U ?_;rintro w H;refine Am U (qA (Ar (Ad (AC U (Cl U (qA (Au _ U ?_ ?_)))))))
   .intro h3;replace h3:=CJ h3;have hn:DZ (Gd A ((fr:Int)+page))=none:=by cases h:DZ (Gd A ((fr:Int)+page)) <;> simp_all
    rw[hn]at hrd;refine Ad (B0 [.bool false,.slice none 0 0] Gp Cb ?_);refine Bi Ba U U U (by simp[Bg]) H at1 U ?_;rintro w H;refine Ac U (qA (Ax (Ao (Dh U U U BH Ba H at1 U (show _=(.int _ _)from rfl) ?_))));exact⟨false,none,0,0,by rw[hrd],Hold.ext.then H.ext (fun x hx => .inr (by rw[qaa.1 hx];exact hge)),fun i M h=>by rw[hrd]at h;cases h⟩
   .intro h3;replace h3:=CK h3;obtain⟨nd,hn⟩:∃nd,DZ (Gd A ((fr:Int)+page))=some nd:=by cases h:DZ (Gd A ((fr:Int)+page)) <;> simp_all
    rw[hn]at hrd;refine Aq (Aa (Ad (BG BH Ba U H at0 U (Bi Ba U U U (by simp[Bg]) H at1 U ?_))));rintro w H;refine Ac U (qA (Ax (Dh U U U BH Ba H at1 U (show _=(.int _ _)from rfl) ?_)));refine⟨inner,aa,nn,cc,by rw[hrd],Hold.ext.then H.ext (fun x hx => .inr (by rw[qaa.1 hx];exact hge)),fun i M h=>?_⟩;rw[hrd]at h
    injection h with h
    subst h;obtain⟨h5,h6,h7⟩:=hits i M hn;refine⟨h5,(h6.past H.ext fun x hx=>by rw[qaa.1 hx];exact hb6l).weak (Old.mono hxw),fun x hx=>?_⟩;have h8:=h7 x hx;have h9:=Od (Gd A ((fr:Int)+page));unfold OkL at h8;omega
end
theorem Abe{b:Byt}{i:Bool}{l:List It}(h:DZ b=some (i,l)):l≠[]:=by
 unfold DZ at h
 split at h
 .unfold VU at h
  split at h
  .split at h
   .rename_i h5
    injection h with h;injection h with h6 h7
    rw[<-h7];exact h5.2
   .cases h
  .cases h
 .cases h
theorem QO{i:Bool}{b:Byt}:∀{n at':Nat} {r:List It × Nat},EN i b n at'=some r->r.1.length=n
 |0,at',r,h=>by cases h;rfl
 |n+1,at',r,h=>by
  cases h1:Mh i b at' with
  |none=>rw[OY h1]at h;cases h
  |some x =>
   obtain⟨x,m⟩:=x;rw[OZ h1]at h
   cases h2:EN i b n m with
   |none=>rw[h2]at h;cases h
   |some r2 =>
    rw[h2]at h;cases h;show r2.1.length+1=n+1;rw[QO h2]
theorem Yo{b:Byt}{i:Bool}{l:List It}(h:DZ b=some (i,l)):l.length<=65535:=by
 unfold DZ at h
 split at h
 .unfold VU at h
  split at h
  .rename_i r hr
   split at h
   .injection h with h;injection h with h6 h7
    have h8:=QO hr;have h9:=JD ((C8 b).take 2);have h10:256 ^ ((C8 b).take 2).length<=256 ^ 2:=qcx (by omega) (by rw[qa1];omega);rw[<-h7,h8];omega
   .cases h
  .cases h
 .cases h
theorem Fe{A:Dev}{fr sz:Nat}{page depth:Int}{i:Bool}{l:List It}(h:(Dc A fr sz page depth).2=some (i,l)):(Dc A fr sz page depth).1=0/\l≠[]/\depth<=16/\0<=page/\page<(sz:Int)/\l.length<=65535:=by
 unfold Dc at h |-
 split at h
 .cases h
 .rename_i h1
  rw[if_neg h1]
  split at h
  .rename_i h2
   rw[if_pos h2]
   split at h
   .cases h
   .rename_i n hn
    injection h with h
    subst h;exact⟨rfl,Abe hn,by omega,by omega,by omega,Yo hn⟩
  .cases h
theorem Ic{A:Dev}{fr sz:Nat}{page depth:Int}(h:(Dc A fr sz page depth).2=none):(Dc A fr sz page depth).1≠0:=by
 unfold Dc at h |-
 split
 .decide
 .rename_i h1
  rw[if_neg h1]at h
  split
  .rename_i h2
   rw[if_pos h2]at h
   split
   .decide
   .rename_i n hn
    rw[hn]at h;cases h
  .rename_i h2;exact h2
theorem Oh{l:List It}(h:l≠[])(key:Byt):BX l key<l.length:=by
 unfold BX
 have h1:=qe8 (l:=l.tail) (fun x:It=>decide (DE x.key key<=0)) |>.length_le
 have h2:=qbv.2 h;rw[qev]at h1;omega
theorem Yp(L:List It)(key:Byt):∀(n i j:Nat),j - i<=n->i<=j->i<=bsN L key i j/\bsN L key i j<=j
 |0,i,j,h,hij=>by rw[Nq];omega
 |n+1,i,j,h,hij=>by
  by_cases hlt:i<j
  .rw[Yl hlt]
   split
   .have:=Yp L key n ((i+j) / 2+1) j (by omega) (by omega);omega
   .have:=Yp L key n i ((i+j) / 2) (by omega) (by omega);omega
  .rw[Nq];omega
theorem Oi(L:List It)(key:Byt):C0 L key<=L.length:=(Yp L key _ 0 L.length (qaf _) (qak _)).2
theorem Ml{L:List It}{key:Byt}(h:EO L key=true):∃x,L[C0 L key]?=some x/\x.key=key:=by
 unfold EO at h
 cases hx:L[C0 L key]? with
 |none=>rw[hx]at h;cases h
 |some x=>rw[hx]at h;exact⟨x,rfl,Ng (qde h)⟩
def Hr(sz root:Int):Int:=if root < -1\/sz<=root then 1 else 0
def CU(k v:Nat):Bool:=decide (1<=k) && (decide (k<=32) && decide (v<=128))
def VZ(A:Dev)(fr sz:Nat)(key:Byt):Nat->Int->Int->Int × Option Byt
 |0,_,_=>(9,none)
 |n+1,page,depth =>
  if page = -1 then(0,none)else match(Dc A fr sz page depth).2 with
  |none=>((Dc A fr sz page depth).1,none)
  |some (true,l)=>VZ A fr sz key n (((l[BX l key]?.map (·.page)).getD 0:Nat):Int) (depth+1)
  |some (false,l)=>if EO l key=true then(0,some ((l[C0 l key]?.map (·.val)).getD []))else(0,none)
def Nx(A:Dev)(fr sz:Nat)(root:Int)(key:Byt):Int × Option Byt :=
 if Hr sz root≠0 then(1,none)else if CU key.length 0=true then VZ A fr sz key 18 root 0 else(1,none)
theorem Oj(a b:Option Addr)(n m c d:Nat)(w:World):Ret prog 126 #[.slice a n c,.slice b m d] w fun v w'=>v=.bool (CU n m)/\w=w':=by
 obtain⟨w0,rfl⟩:=qD w;refine A6 (fn:=f126) func126 U [.slice a n c,.slice b m d] U (Ad (Am U (qA (Ad (Ai U (AO AW U (HN U U (AC U (AX 8 U ?_ ?_)))))))))
 .intro h1;replace h1:=AU h1;refine Ai U (AO AW U (PX U U U (AQ U (.bool _) U (AC U (AX 13 U ?_ ?_)))))
  .intro h2;replace h2:=AU h2;refine Ai U (AO AW U (PX U U U (AQ U (.bool _) U (Am U (qA (Ax (AH (v:=(.bool _)) U U U ?_)))))));exact⟨qac Value.bool (by unfold CU;rw[qar];simp;omega),rfl⟩
  .intro h3;replace h3:=AV h3;refine Ak U (Ak U (Ak U (AN U (.bool _) U (Am U (qA (Ax (AH (v:=(.bool _)) U U U ?_)))))));exact⟨qac Value.bool (by unfold CU;rw[qar];simp;omega),rfl⟩
 .intro h4;replace h4:=AV h4;refine Ak U (Ak U (Ak U (AN U (.bool _) U (AC U (Ak U (Ak U (Ak U (AN U (.bool _) U (Am U ?_)))))))));refine qA (Ax (AH (v:=(.bool _)) U U U ?_));exact⟨qac Value.bool (by unfold CU;rw[qar];simp;omega),rfl⟩
section
variable {w:World}{bt bd bp ba fr:Nat}{A:Dev}{P:List Nat}{F:Mut}{L:List (Nat × Obj)}
theorem PB(T:Tx w bt bd bp ba fr A P F L)(root:Int):Ret prog 123 #[ptr bt,.int .i64 root] w fun v w'=>v=.int .i64 (Hr P.length root)/\w=w':=by
 obtain⟨w0,rfl⟩:=qD w;refine A6 (fn:=f123) func123 U [.pointer (some ⟨bt,0,none⟩),.int .i64 root] U ?_;refine Ad (Ac U (qA (Ar (AD (Ad (An U (BN Akn U ?_)))))));refine Am U (qA (Bw U (Ad (BB (α:=Unit) 1048320 (fun _=>[(8,.bool (decide (root < -1) || decide ((P.length:Int)<=root)))]) (fun _ w'=>w0=w') U ?_ ?_))))
 .refine Ae U (Bt U U (AC U (AX 11 U ?_ ?_)))
  .intro h1;replace h1:=AU h1;refine Ak U (Ak U (Ak U (Ak U (Ak U (Ak U (Ak U (AQ U (.bool _) U (Am U (Ab ?_)))))))));exact⟨rfl,(),rfl,⟨qac Value.bool (by rw[qar];simp;omega),trivial⟩,rfl⟩
  .intro h2;replace h2:=AV h2;refine Ae U (An U (Ay U (Af Kr U (Bf JQ U (Ap T.tr (0+1)) ?_))));refine Ah qB (Nv T.pg) U ?_;rintro v w ⟨rfl,rfl⟩;refine HN U U (AN U (.bool _) U (Am U (Ab ?_)));exact⟨rfl,(),rfl,⟨qac Value.bool (by rw[qar];simp;omega),trivial⟩,rfl⟩
 rintro - j8 w rfl;refine Au _ U ?_ ?_
 .intro h1;refine Ad (Ac U (qA (Ax (AL (Ao (AH (v:=(.int _ _)) U U U ?_))))));exact⟨by rw[Hr,if_pos (by simpa using h1)],rfl⟩
 .intro h1;have hn1:¬(root < -1\/(P.length:Int)<=root):=(by intro h5;have h6:(decide (root < -1) || decide ((P.length:Int)<=root))=true:=(by simpa using h5);rw[h1]at h6;cases h6);refine Aq (AF (Aa (Ad (Ac U (qA (Ax (AH (v:=(.int _ _)) U U U ?_)))))));exact⟨by rw[Hr,if_neg hn1],rfl⟩
theorem UQ{A:Dev}{fr sz:Nat}{key:Byt}{n:Nat}{page depth:Int}:VZ A fr sz key (n+1) page depth=if page = -1 then(0,none)else match(Dc A fr sz page depth).2 with
  |none=>((Dc A fr sz page depth).1,none)
  |some (true,l)=>VZ A fr sz key n (((l[BX l key]?.map (·.page)).getD 0:Nat):Int) (depth+1)
  |some (false,l)=>if EO l key=true then(0,some ((l[C0 l key]?.map (·.val)).getD []))else(0,none):=by rw[VZ]
theorem Z1(T:Tx w bt bd bp ba fr A P F L)(hfr:fr<=5000)(root:Int)(hr : -9223372036854775808<=root/\root<=9223372036854775807)(ka:Option Addr)(kc kn:Nat)(key:Byt)(Rk:Rd w ka 1 B8 key)(hk:key.length=kn){mx:Nat}(hfew:Few A mx)(hmx:mx<=1000000000:=by omega):
  Ret prog 148 #[ptr bt,.int .i64 root,.slice ka kn kc] w fun v w'=>∃va vc u,v=.tuple #[.slice va (List.length u) vc,.bool (Nx A fr P.length root key).2.isSome,.int .i64 (Nx A fr P.length root key).1]/\Ext [] w w'/\Rdx w' (Old w) va u/\u.length<=vc/\u=(Nx A fr P.length root key).2.getD []:=by
 subst hk;obtain⟨w0,rfl⟩:=qD w;obtain⟨rg,hrg⟩:=qD (Nx A fr P.length root key);rw[<-hrg];unfold Nx at hrg;refine A6 (fn:=f148) func148 U [.pointer (some ⟨bt,0,none⟩),.int .i64 root,.slice ka key.length kc] U ?_;refine Ad (Aj U (Am U (Ac U (qA (Ar (Ad (An U (Ae U (Ah qB (PB T root) U ?_)))))))));rintro v w ⟨rfl,rfl⟩;refine Ac U (qA (Ad (Ae U (AZ U U (qA (Au _ U ?_ ?_))))))
 .intro h1;replace h1:=Bu h1;rw[if_pos h1]at hrg;have he:Hr P.length root=1:=by unfold Hr at h1 |-;split <;> simp_all
  refine Ad (Ae U (Aj U (Am U (Ac U (qA (Ax (Ao (CG (v1:=(.slice _ _ _)) (v2:=(.bool _)) (v3:=(.int _ _)) U U U U U ?_))))))));exact⟨none,0,[],by rw[hrg,he];rfl,.refl _ _,Rdx.nil,qaf _,by rw[hrg];rfl⟩
 .intro h1;replace h1:=Bv h1;rw[if_neg (by simpa using h1)]at hrg;refine Aq (Aa (Ar (Ad (Ai U (Ah qB (Oj ka none _ 0 kc 0 _) U ?_)))));rintro v w ⟨rfl,rfl⟩;refine Cl U (qA (Au _ U ?_ ?_))
  .intro h2;replace h2:=CJ h2;rw[if_neg (by simpa using h2)]at hrg;refine Ad (Aj U (Am U (Ac U (qA (Ax (Ao (CG (v1:=(.slice _ _ _)) (v2:=(.bool _)) (v3:=(.int _ _)) U U U U U ?_)))))));exact⟨none,0,[],by rw[hrg];rfl,.refl _ _,Rdx.nil,qaf _,by rw[hrg];rfl⟩
  .intro h2;replace h2:=CK h2;rw[if_pos (by simpa using h2)]at hrg;refine Aq (Aa (Ar (Ad (Ae U (Ac U (Ac U (qA (AD (BF 73786976294771162560 (α:=Int × Nat) (fun s=>[(10,.int .i64 s.1),(11,.int .i64 (s.2:Int))]) (fun s w'=>Ext [] w0 w'/\s.2<=17/\(-9223372036854775808<=s.1/\s.1<=9223372036854775807)/\VZ A fr P.length key (18 - s.2) s.1 (s.2:Int)=rg) (fun s=>18 - s.2) (root,0) U ?_ ?_ ?_)))))))))
   .exact⟨rfl,rfl,trivial⟩
   .exact⟨.refl _ _,qak _,hr,hrg.symm⟩
   .rintro⟨page,d⟩ j w ⟨hx,hd,hpg,hg⟩;dsimp only at hx hd hpg hg;dsimp only;rw[show 18 - d=(17 - d)+1 by omega,UQ]at hg;refine Ar (Ad (Ae U (AZ U U (qA (Au _ U ?_ ?_)))))
    .intro h3;replace h3:=Bu h3;rw[if_neg (by simpa using h3)]at hg;have Tw:=T.call hx;refine Aq (Aa (Ar (AD (Ad (An U (Ae U (Ae U (Ah qB (QN Tw hfr page (d:Int) hpg hfew hmx) U ?_))))))));rintro v w2 ⟨inner,aa,nn,cc,rfl,hx34,hits⟩;have H:=Ctx.start w2 [];refine AM U (Ag U U (Ag U U (Be Cb H ?_)));rintro b12 w - H;refine Bi Ba U U U (by simp[Bg]) H at0 U ?_;rintro w H;refine Ac U (qA (Ar (Ad (Ae U (AZ U U (qA (Au _ U ?_ ?_)))))))
     .intro h4;replace h4:=Bu h4
      have hnone:(Dc A fr P.length page (d:Int)).2=none:=by
       cases h5:(Dc A fr P.length page (d:Int)).2 with
       |none=>rfl
       |some r=>obtain⟨i,l⟩:=r;exact absurd (Fe h5).1 (by simpa using h4)
      rw[hnone]at hg;dsimp only at hg;refine Ad (Ae U (Aj U (Am U (Ac U (qA (Ax (Ao (AL (Ao (Ao (AL (Ao (CG (v1:=(.slice _ _ _)) (v2:=(.bool _)) (v3:=(.int _ _)) U U U U U ?_)))))))))))));exact⟨none,0,[],by rw[<-hg];rfl,hx.trans (hx34.trans H.ext),Rdx.nil,qaf _,by rw[<-hg];rfl⟩
     .intro h4;replace h4:=Bv h4
      obtain⟨⟨i,l⟩,hsome⟩:∃r,(Dc A fr P.length page (d:Int)).2=some r:=by
       cases h5:(Dc A fr P.length page (d:Int)).2 with
       |none=>exact absurd (by simpa using h4) (Ic h5)
       |some r=>exact⟨r,rfl⟩
      obtain⟨-,hne,hd16,-,-,hll⟩:=Fe hsome;obtain⟨rfl,I,hb⟩:=hits i l hsome;rw[hsome]at hg;have hxw:=hx.trans hx34;have hnum:=I.num;refine Aq (Aa (Ar (Ad (Af Dl U (AG Gx U H at0 U (qA (Au _ U ?_ ?_)))))))
      .intro h5;subst h5;dsimp only at hg;have hb12:=H.get at0;have hx12:=H.ext;obtain⟨wr,rfl⟩:=qD w;have hkeep:∀{z:World},Ext [] wr z->z.heap[b12]?=some (Bl 183 [.bool true,.slice aa nn cc]):=fun{z} h=>by rw[h.block b12 (Al hb12) (by simp)];exact hb12
       have Ir:=I.call hx12;obtain⟨ms,R,-,hl,hok⟩:=Ir.ex;have hml:ms.length=nn:=by rw[hnum,<-hl,qal]
       have hbl:=Oh hne key;obtain⟨x,hx1⟩:=AR (l:=ms) (i:=BX l key);have hxL:=Im.at hl hx1;have hxb:=hb x.it (qad hxL);rw[hxL]at hg;simp only[qbd,qdp]at hg;have hRR:∀{z:World},Ext [] wr z->Rd z aa 3 Im.enc ms:=fun{z} h=>R.ext0 h;have hx0r:Ext [] w0 wr:=hxw.trans hx12;refine BR [([0,1,2,3,4],5),([6,7,8],9)] (fun z=>Ext [] wr z) [] mixed (Ext.drew [] wr) (AB U U ?_);refine AE Bq U (BJ BK U (fun _ hx=>Ap (hkeep hx) (0+1)) ?_);refine AE Bq U (BJ BK U (fun _ hx=>Ap (hkeep hx) (0+1)) ?_);refine Cg U (Bm ?_)
       skip
       refine Ah qB (VV (Ir.call (Ext.drew [] wr)) ka kc _ key (Rk.ext0 (hx0r.trans (Ext.drew [] wr))) U) U ?_;rintro v w5 ⟨rfl,rfl⟩;refine Ab (Bb ((Ext.drew [] wr)) (AB U U ?_));refine DS R Br Bh U U (AE F8 U (BJ DU U (fun _ hx=>(hRR hx).fld hx1 rfl (j:=2) rfl) ?_));refine Bm (Ac U (Ab (Bb ((Ext.drew [] wr)) (B3 (B9 (A8 (Bd (Aa (Av (Ae U (AA U U ?_)))))))))));refine Ac U (qA ?_);exact⟨(((x.it.page:Nat):Int),d+1),rfl,⟨rfl,rfl,trivial⟩,⟨hx0r.trans (Ext.drew [] wr),by dsimp only;omega,by dsimp only;omega,by dsimp only;rw[show 18 - (d+1)=17 - d by omega];exact hg⟩,by dsimp only;omega⟩
      .intro h5;subst h5;dsimp only at hg;have hx12:=H.ext;have Ir:=I.call hx12;obtain⟨ms,R,-,hl,hok⟩:=Ir.ex;have hml:ms.length=nn:=by rw[hnum,<-hl,qal]
       refine Aq (Aa (Ad (Af Bq U (AG BK U H at0 U (Ai U (Ah qB (QJ Ir ka kc _ key (Rk.ext0 (hxw.trans hx12)) U) U ?_))))));rintro v w5 ⟨rfl,hx55⟩;replace H:=H.call hx55;refine AM U (Ag U U (Ag U U (Ac U (Am U (qA (Ar (Ad (AC U (Cl U ?_)))))))));refine qA (Au _ U ?_ ?_)
       .intro h6;replace h6:=CJ h6;rw[if_neg (by simpa using h6)]at hg;refine Ad (Aj U (Am U (Ac U (qA (Ax (Ao (AL (Ao (Ao (AL (Ao (CG (v1:=(.slice _ _ _)) (v2:=(.bool _)) (v3:=(.int _ _)) U U U U U ?_))))))))))));exact⟨none,0,[],by rw[<-hg];rfl,hxw.trans H.ext,Rdx.nil,qaf _,by rw[<-hg];rfl⟩
       .intro h6;replace h6:=CK h6;have h6':EO l key=true:=by simpa using h6
        rw[if_pos h6']at hg;obtain⟨y,hy,-⟩:=Ml h6';have hpl:=(qaq.1 hy).1;obtain⟨x,hx1⟩:=AR (l:=ms) (i:=C0 l key);have hxL:=Im.at hl hx1;rw[hxL]at hg;simp only[qbd,qdp]at hg;have hxo:=(hok x (qad hx1)).call hx55;refine Aq (Aa (Ad (Af Bq U (AG BK U H at0 U (Ae U (Bj R Br Bh U U ?_))))));refine Af Ks U (Bf BL U ((R.ext0 hx55).fld hx1 U (j:=1) U) ?_);refine Aj U (Am U (Ac U (qA (Ax (AL (Ao (Ao (AL (Ao (CG (v1:=(.slice _ _ _)) (v2:=(.bool _)) (v3:=(.int _ _)) U U U U U ?_))))))))));refine⟨x.va,x.vc,x.it.val,by rw[<-hg];rfl,hxw.trans H.ext,hxo.v.weak (Old.mono hx),hxo.vc,by rw[<-hg];rfl⟩
    .intro h3;replace h3:=Bv h3;have h3':page = -1:=by simpa using h3
     rw[if_pos h3']at hg;refine B9 (A8 (A8 (Bd (Aa (Ad (Aj U (Am U (Ac U (qA (Ax (CG (v1:=(.slice _ _ _)) (v2:=(.bool _)) (v3:=(.int _ _)) U U U U U ?_)))))))))));exact⟨none,0,[],by rw[<-hg];rfl,hx,Rdx.nil,qaf _,by rw[<-hg];rfl⟩
end
end Go.Proofs.YtcpgbcabmcbclaaGreatDoor
