/- Part 10 of the proof. -/
import Derived.Test.YtcpgbcabmcbclaaGreatDoorPart9
set_option maxRecDepth 20000
set_option maxHeartbeats 4000000
namespace Go.Proofs.YtcpgbcabmcbclaaGreatDoor
open Go.GV Go.Proofs.Tryz
attribute [local irreducible] A7 W Wq Wt
theorem Ag5{w:World}{bj bd:Nat}{J:Jr}(h:w.heap[bj]?=some (Bl TJ (JB bd J))) :
  Ret prog 86 #[ptr bj] w fun v w'=>v=.int .i64 (bif J.dead then 3 else 0)/\w=w':=by
 obtain⟨w0,rfl⟩:=qD w;unfold JB at h;have H:=Ctx.start1 h;refine A6 (fn:=f86) func86 U [.pointer (some ⟨bj,0,none⟩)] U ?_;refine Ad (Ac U (qA (Ar (AD (Ad (An U (BN Zq U ?_)))))));refine Am U (qA (Bw U (Ad (An U (Ay U (Af VB U (AG Gx U H at0 U (Am U (qA ?_)))))))));refine Au _ U ?_ ?_
 .intro h1;refine Ad (Ac U (qA (Ax (AL (Ao (AH (v:=(.int _ _)) U U U ?_))))));exact⟨by simp[h1],rfl⟩
 .intro h1;refine Aq (AF (Aa (Ad (Ac U (qA (Ax (AH (v:=(.int _ _)) U U U ?_)))))));exact⟨by simp[h1],rfl⟩
theorem Ai8(w:World):Ret prog 86 #[.pointer none] w fun v w'=>v=.int .i64 2/\w=w':=by
 refine A6 (fn:=f86) func86 U [.pointer none] U (Ad (Ac U (qA (Ar (AD (Ad (An U (BN Zq U ?_))))))));refine Am U (qA (Fi U (Ad (Ac U (qA (Ax (AL (Ao (AH (v:=(.int _ _)) U U U ?_)))))))));exact⟨rfl,rfl⟩
theorem ZL{w:World}{bj bd:Nat}{J:Jr}(h:w.heap[bj]?=some (Bl TJ (JB bd J)))(hJ:J.Ok) :
  Ret prog 46 #[ptr bj] w fun v w'=>v=.int .i64 ((J.size - J.taken:Nat):Int)/\Ext [] w w':=by
 obtain⟨w0,rfl,H⟩:=qE w;have h1:=hJ.s2;have h2:=hJ.t;refine A6 (fn:=Tryz.f46) func46 U [.pointer (some ⟨bj,0,none⟩)] U ?_;refine Ad (Ac U (qA (Ar (Ad (An U (BN Zq U ?_))))));refine qA (Bw U (Aq (Aa (Kd (fun x=>x=_) mixed U ?_))));refine GN U (Ej U (Da MT U (Ma DU U (by rintro _ rfl;exact(Ctx.old0 H.drew (Ap h _))) ?_)));refine GN U (Ej U (Da Kq U (Ma DU U (by rintro _ rfl;exact(Ctx.old0 H.drew (Ap h _))) ?_)));refine SK U U U (FT U (LJ ?_));rintro _ rfl;replace H:=H.drew;refine Ax (AH (v:=(.int _ _)) U U U ?_);exact⟨qac (Value.int .i64) (by omega),H.ext⟩
theorem ZM{w:World}{bj bd:Nat}{J:Jr}(h:w.heap[bj]?=some (Bl TJ (JB bd J))) :
  Ret prog 35 #[ptr bj] w fun v w'=>v=.tuple #[.int .i64 (J.at':Int),.int .u64 (J.seq:Int)]/\Ext [] w w':=by
 obtain⟨w0,rfl,H⟩:=qE w;refine A6 (fn:=f35) func35 U [.pointer (some ⟨bj,0,none⟩)] U ?_;refine Ad (Ac U (Ac U (qA (Ar (Ad (An U (BN Zq U ?_)))))));refine qA (Bw U (Aq (Aa (Kd (fun x=>x=_) mixed U ?_))));refine GN U (Ej U (Da MU U (Ma DU U (by rintro _ rfl;exact(Ctx.old0 H.drew (Ap h _))) ?_)));refine GN U (Ej U (Da Kp U (Ma FU U (by rintro _ rfl;exact(Ctx.old0 H.drew (Ap h _))) ?_)));refine FT U (FT U (LJ ?_));rintro _ rfl;replace H:=H.drew;refine Ax (Ce (v1:=(.int _ _)) (v2:=(.int _ _)) U U U U ?_);exact⟨rfl,H.ext⟩
def Jr.passes(J:Jr)(n:Nat):Jr:={ J with at':=(J.at'+blk n) % J.size,seq:=J.seq+1,taken:=J.taken+blk n }
theorem Ua{w:World}{bj bd:Nat}{J:Jr}(h:w.heap[bj]?=some (Bl TJ (JB bd J)))(hJ:J.Ok)(n:Nat)(ht:J.taken+blk n<=J.size)(hn:n<=100000000:=by omega):
  Ret prog 76 #[ptr bj,.int .i64 (n:Int)] w fun v w'=>v=.tuple #[]/\w'.heap[bj]?=some (Bl TJ (JB bd (J.passes n)))/\Ext [bj] w w':=by
 obtain⟨w0,rfl⟩:=qD w;unfold JB at h;have H:=Ctx.start1 h;have h1:=hJ.s1;have h2:=hJ.s2;have h3:=hJ.a;have h4:=hJ.q;have hm:=qbi (J.at'+blk n) (show 0<J.size by omega);refine A6 (fn:=f76) func76 U [.pointer (some ⟨bj,0,none⟩),.int .i64 (n:Int)] U ?_;refine Ad (Ae U (Ah qB (FN (n:Int) _) U ?_));rintro v w ⟨rfl,rfl⟩;rw[Il];refine Ac U (qA (Ke [([0,1,2,3,4,5,6,7,8,9,10,11,12,13,14,15,16,17,18,19,20,21,22,23,24,25,26],27),([28,29],30),([31,32],33)] (fun x=>x=World.drew w0) [27,30,33] mixed (rfl) ?_));refine AB U U (CE U (CE U (CE U (CE U (Bn U (AE MU U (SO U DU U (by rintro _ rfl;exact H.drew) at0 U ?_)))))));refine BM U (EF U U ?_);refine CE U (Bn U (AE MT U (SO U DU U (by rintro _ rfl;exact H.drew) at0 U ?_)))
 refine Ajx U U U ?_;rw[show((J.at':Int)+(blk n:Int)) % (J.size:Int)=(((J.at'+blk n) % J.size:Nat):Int)by rw[Int.natCast_emod,Int.natCast_add]];refine CE U (Bn U (AE Kp U (SO U FU U (by rintro _ rfl;exact H.drew) at0 U ?_)));refine SQ U U U (CE U (Bn U (AE Kq U (SO U DU U (by rintro _ rfl;exact H.drew) at0 U ?_))));refine BM U (EF U U ?_);refine Bn U (AE MU U (Bm ?_));replace H:=H.drew;refine Bc (.int _ _) GZ U U U H at0 (by(simp;done)) ?_;rintro w H;refine Ab (CR U (AB U U ?_));refine Bn U (AE Kp U (Bm (Bc (.int _ _) VH U U U H at0 (by(simp;done)) ?_)));rintro w H;refine Ab (CR U (AB U U ?_));refine Bn U (AE Kq U (Bm (Bc (.int _ _) GZ U U U H at0 (by(simp;done)) ?_)));rintro w H;refine Ab (CR U (B3 (Hw U U ?_)));exact⟨rfl,H.get at0,H.ext⟩
theorem YB{w:World}{bj bd:Nat}{J:Jr}(h:w.heap[bj]?=some (Bl TJ (JB bd J))) :
  Ret prog 57 #[ptr bj] w fun v w'=>v=.int .i64 (bif J.dead then 3 else 0)/\w'.heap[bj]?=some (Bl TJ (JB bd (if J.dead then J else{ J with taken:=0 })))/\Ext [bj] w w':=by
 obtain⟨w0,rfl⟩:=qD w;unfold JB at h;have H:=Ctx.start1 h;refine A6 (fn:=f57) func57 U [.pointer (some ⟨bj,0,none⟩)] U ?_;refine Ad (Ac U (qA (Ad (An U (Ah qB (Ag5 h) U ?_)))));rintro v w ⟨rfl,rfl⟩;refine Ac U (qA (Ar (Ad (Ae U (B1 U U (qA (Au _ U ?_ ?_)))))))
 .intro h1;replace h1:=AU h1;have hd:J.dead=false:=by cases hd:J.dead <;> simp_all
  refine Av (An U (Ay U (Af Kq U (Bc (.int _ _) GZ U U U H at0 (by(simp;done)) ?_))));rintro w H;refine qA (Ad (Ae U (Ac U (qA (Ax (AH (v:=(.int _ _)) U U U ?_))))));exact⟨rfl,by rw[if_neg (by simp[hd])];exact H.get at0,H.ext⟩
 .intro h1;replace h1:=AV h1;have hd:J.dead=true:=by cases hd:J.dead <;> simp_all
  refine Aq (Aa (Ad (Ae U (Ac U (qA (Ax (AH (v:=(.int _ _)) U U U ?_)))))));exact⟨rfl,by rw[if_pos hd];exact H.get at0,H.ext⟩
def ND(A:Dev)(J:Jr)(b:Byt):Int:=if J.dead then 3 else if J.size - J.taken<blk b.length then 7 else(CN A J b).1
def HB(A:Dev)(J:Jr)(b:Byt):Dev:=if J.dead then A else if J.size - J.taken<blk b.length then A else(CN A J b).2
def NE(A:Dev)(J:Jr)(b:Byt):Jr:=if J.dead then J else if J.size - J.taken<blk b.length then J else if(CN A J b).1=0 then J.passes b.length else{ J with dead:=true }
theorem Dv.base{w0 w:World}{bd:Nat}{A:Dev}{F F0 F':Nat->Prop}{L:List (Nat × Obj)}(D:Dv w0 w bd A F F' L)(h:∀x,F x->F0 x):Dv w0 w bd A F0 F' L :=
 ⟨D.dev,let ⟨S,hS,hx⟩:=D.turn;⟨S,fun x hx=>h x (hS x hx),hx⟩,fun x hx=>(D.own x hx).imp (h x) id,D.lt,D.blk,D.off⟩
theorem Dv.mine{w0 w w':World}{bd:Nat}{A:Dev}{F F':Nat->Prop}{b:Nat}{o o':Obj}(D:Dv w0 w bd A F F' [(b,o)])(hb:F b)(hx:Ext [b] w w')(h:w'.heap[b]?=some o'):Dv w0 w' bd A F F' [(b,o')]:=by
 have h1:=hx.size;have hn:¬F' b:=D.off (b,o) (qae ..);exact⟨D.dev.keep hx fun x h=>by rw[qaa.1 h];exact hn,D.turn.trans (.of hx (S:=[b]) (F:=fun x=>x=b) fun x h=>qaa.1 h) fun x h => .inl (by rw[h];exact hb),fun x hx=>(D.own x hx).imp id fun h=>⟨h.1,by omega⟩,fun x hx=>by have:=D.lt x hx;omega,fun x hx=>by rw[qaa.1 hx];exact h,fun x hx=>by rw[qaa.1 hx];exact hn⟩
theorem Dv.from{w0 w1 w:World}{bd:Nat}{A:Dev}{F F0 F':Nat->Prop}{L:List (Nat × Obj)}(D:Dv w1 w bd A F F' L)(hx:Ext [] w0 w1)(h:∀x,F x->F0 x):Dv w0 w bd A F0 F' L:=by
 have D':=D.base h;have h1:=hx.size;exact⟨D'.dev,Turn.trans (.of0 hx) D'.turn fun x h => .inl h,fun x hx=>(D'.own x hx).imp id fun h=>⟨by omega,h.2⟩,D'.lt,D'.blk,D'.off⟩
theorem Dv.start{w:World}{bd:Nat}{A:Dev}{F F0:Nat->Prop}{L:List (Nat × Obj)}(D:DevAt w bd A F)(hlt:∀x,F x->x<w.heap.size)(h:∀x,F x->F0 x)(hL:∀x∈L,w.heap[x.1]?=some x.2/\¬F x.1):Dv w w bd A F0 F L :=
 ⟨D,.of0 (.refl _ _),fun x hx => .inl (h x hx),hlt,fun x hx=>(hL x hx).1,fun x hx=>(hL x hx).2⟩
theorem Aca{w:World}{bj bd:Nat}{J:Jr}{A:Dev}{F:Nat->Prop}(h:w.heap[bj]?=some (Bl TJ (JB bd J)))(hJ:J.Ok)(a:Option Addr)(c n:Nat)(b:Byt)(R:Rd w a 1 B8 b)(hn:b.length=n)(hm:n<=900000)(hc:n<=c)(hlt:∀x,F x->x<w.heap.size)(hFj:¬F bj)(hFa:b=[]\/¬F (adr a).block){mx:Nat}(hfew:Few A mx)(hmx:mx<=1000000000)(DA:DevAt w bd A F) :
  Ret prog 48 #[ptr bj,.slice a n c] w fun v w'=>v=.int .i64 (ND A J b)/\∃F',Dv w w' bd (HB A J b) (fun x=>F x\/x=bj) F' [(bj,Bl TJ (JB bd (NE A J b)))]:=by
 subst hn;obtain⟨w0,rfl⟩:=qD w;have D0:Dv w0 w0 bd A (fun x=>F x\/x=bj) F [(bj,Bl TJ (JB bd J))]:=Dv.start DA hlt (fun x h => .inl h) fun x hx=>by rw[qaa.1 hx];exact⟨h,hFj⟩
 have hbl:=Ov b.length;refine A6 (fn:=f48) func48 U [.pointer (some ⟨bj,0,none⟩),.slice a b.length c] U ?_;refine Ad (Ac U (qA (Ar (Ad (An U (Ah qB (Ag5 h) U ?_))))));rintro v w ⟨rfl,rfl⟩;refine Ac U (qA (Ad (Ae U (AZ U U (qA (Au _ U ?_ ?_))))))
 .intro h1;replace h1:=Bu h1;have hd:J.dead=true:=by cases hd:J.dead <;> simp_all
  refine Ad (Ae U (Ac U (qA (Ax (Ao (AH (v:=(.int _ _)) U U U ?_))))));exact⟨by rw[ND,hd];rfl,F,by rw[HB,NE,hd];exact D0⟩
 .intro h1;replace h1:=Bv h1;have hd:J.dead=false:=by cases hd:J.dead <;> simp_all
  refine Aq (Aa (Ar (Ad (Ai U (AO AW U (Ah qB (FN (b.length:Int) _) U ?_))))));rintro v w ⟨rfl,rfl⟩;rw[Il];refine An U (Ah qB (ZL h hJ) U ?_);rintro v w ⟨rfl,hx⟩;have D1:=D0.call hx;refine Ci U U (qA (Au _ U ?_ ?_))
  .intro h2;replace h2:=AU h2;have hf:J.size - J.taken<blk b.length:=by omega
   refine Ad (Ac U (qA (Ax (Ao (AH (v:=(.int _ _)) U U U ?_)))));exact⟨by rw[ND,hd,if_pos hf];rfl,F,by rw[HB,NE,hd,if_pos hf,if_pos hf];exact D1⟩
  .intro h2;replace h2:=AV h2;have hf:¬J.size - J.taken<blk b.length:=by omega
   refine Aq (Aa (Ar (Ad (An U (Ai U (Ah qB (Ab9 (D1.blk _ (qae ..)) hJ a c _ b (R.ext0 hx) U hm hc D1.lt hFj hFa hfew hmx D1.dev) U ?_))))));rintro v w2 ⟨rfl,F2,D2⟩;have D2':Dv w0 w2 bd (CN A J b).2 (fun x=>F x\/x=bj) F2 [(bj,Bl TJ (JB bd J))]:=Dv.from D2 hx fun x h => .inl h;refine Ac U (qA (Ad (Ae U (AZ U U (qA (Au _ U ?_ ?_))))))
   .intro h3;replace h3:=Bu h3;have hJ2:=D2'.blk _ (qae ..);unfold JB at hJ2;have H:=Ctx.start1 hJ2;refine Ad (An U (Ay U (Af VB U (Bc (.bool _) Ae2 U U U H at0 (by(simp;done)) ?_))));rintro w H;refine qA (Ad (Ae U (Ac U (qA (Ax (Ao (AH (v:=(.int _ _)) U U U ?_)))))));have hd':(false=true)=False:=by simp
    refine⟨by rw[ND,hd,if_neg hf];rfl,F2,?_⟩;rw[HB,NE,hd,if_neg hf,if_neg hf,if_neg h3];exact D2'.mine (.inr U) H.ext (H.get at0)
   .intro h3;replace h3:=Bv h3;have hbt:=DX b.length;refine Aq (Aa (Ad (An U (Ai U (AO AW U (Ah qB (Ua (D2'.blk _ (qae ..)) hJ b.length (by have:=hJ.t;omega)) U ?_))))));rintro v w3 ⟨rfl,hj3,hx3⟩;refine qA (Ad (Ac U (qA (Ax (AH (v:=(.int _ _)) U U U ?_)))));refine⟨by rw[ND,hd,if_neg hf,h3];rfl,F2,?_⟩;rw[HB,NE,hd,if_neg hf,if_neg hf,if_pos h3];exact D2'.mine (.inr U) hx3 hj3
theorem append_nil(w:World)(v:Value):Ret prog 48 #[.pointer none,v] w fun v w'=>v=.int .i64 2/\w=w':=by
 refine A6 (fn:=f48) func48 U [.pointer none,v] U (Ad (Ac U (qA (Ar (Ad (An U (Ah qB (Ai8 w) U ?_)))))));rintro v w ⟨rfl,rfl⟩;refine Ac U (qA (Ad (Ae U (AZ U U (qA (Fi U (Ad (Ae U (Ac U ?_)))))))));refine qA (Ax (Ao (AH (v:=(.int _ _)) U U U ?_)));exact⟨rfl,rfl⟩
def IJ(J:Jr)(i:Nat)(b:Byt):Bool:=decide ((Dg b).toNat=1) && RH (B6 b) (CM J.seq i [])
def KM(J:Jr)(i:Nat)(s b:Byt):Bool:=decide ((Dg b).toNat=2) && (decide (0<i) && (decide (i=blk s.length - 1) && decide (B6 b=Gv J.seq s)))
def Ph(A:Dev)(J:Jr):Nat->Nat->Byt->Option Byt
 |0,_,_=>none
 |n+1,i,s=>if IJ J i (at' A (J.place i))then Ph A J n (i+1) (s++(B6 (at' A (J.place i))).drop 12)else if KM J i s (at' A (J.place i))then some s else none
def Hl(A:Dev)(J:Jr):Option Byt:=Ph A J (J.size - J.taken) 0 []
def Akt(s:Option Byt)(v:Value)(w w':World):Prop :=
 match s with
 |some s=>∃a c,v=.tuple #[.slice a s.length c,.bool true,.int .i64 0]/\Rd w' a 1 B8 s/\s.length<=c/\(s=[]\/w.heap.size<=(adr a).block)/\s.length<=3000000
 |none=>v=.tuple #[.slice none 0 0,.bool false,.int .i64 0]
theorem Ai9{w:World}{bj bd:Nat}{J:Jr}{A:Dev}{F:Nat->Prop}(h:w.heap[bj]?=some (Bl TJ (JB bd J)))(hJ:J.Ok)(ho:A.on=true){mx:Nat}(hfew:Few A mx)(hmx:mx<=1000000000)(DA:DevAt w bd A F)(hl:J.frm+J.size<=A.B.length:=by omega):
  Ret prog 75 #[ptr bj] w fun v w'=>Akt (Hl A J) v w w'/\Ext [] w w':=by
 obtain⟨w0,rfl,H⟩:=qE w;have hs2:=hJ.s2;have ht:=hJ.t;refine A6 (fn:=f75) func75 U [.pointer (some ⟨bj,0,none⟩)] U ?_;refine Ad (Aj U (Am U (Ac U (qA (Ar (Kd (fun x=>x=_) mixed U ?_))))));refine GN U (Ej U (Da MT U (Ma DU U (by rintro _ rfl;exact(Ctx.old0 H.drew (Ap h _))) ?_)));refine GN U (Ej U (Da Kq U (Ma DU U (by rintro _ rfl;exact(Ctx.old0 H.drew (Ap h _))) ?_)));refine SK U U U (IC U (LJ ?_));rintro _ rfl;replace H:=H.drew
 refine AD (BF 38685626227668133589551100 (α:=Nat × Byt × Option Addr × Nat × List Value) (fun s=>[(20,.int .i64 s.1),(2,.slice s.2.2.1 s.2.1.length s.2.2.2.1)]) (fun s w'=>s.1<=J.size - J.taken/\s.2.1.length<=505*s.1/\Ctx w0 [] w' (ent s.2.2.1 5 s.2.2.2.2)/\OS s.2.2.1 s.2.1.length s.2.2.2.1 1 s.2.2.2.2 (s.2.1.map bv)/\Ph A J (J.size - J.taken - s.1) s.1 s.2.1=Hl A J) (fun s=>J.size - J.taken - s.1) (0,[],none,0,[]) U ?_ ?_ ?_)
 .exact⟨rfl,rfl,trivial⟩
 .exact⟨qak _,qak _,H,OS.nil,rfl⟩
 .rintro⟨i,s,a,c,full⟩ j w ⟨hi,hsl,H,O,hN⟩;dsimp only at hi hsl H O hN;dsimp only;refine Ad (Bt U U (qA (Ar (Au _ U ?_ ?_))))
  .intro h1;replace h1:=AU h1;obtain⟨n,hn⟩:∃n,J.size - J.taken - i=n+1:=⟨J.size - J.taken - i - 1,by omega⟩;have hpl:=hJ.place i
   have hrE:Gc A (J.place i:Int)=0:=by
    unfold Gc Dev.has;rw[ho,qam (show(0:Int)<=J.place i by omega),qam (show(J.place i:Int)<A.B.length by omega)];rfl
   have hrB:Gd A (J.place i:Int)=at' A (J.place i):=by
    unfold Gd at';rw[hrE];rfl
   have hrl:(at' A (J.place i)).length=512:=JG DA.wf (Nl);obtain⟨raw,hraw⟩:=qD (at' A (J.place i));rw[<-hraw]at hrB hrl
   have hNx:Hl A J=if IJ J i raw then Ph A J n (i+1) (s++(B6 raw).drop 12)else if KM J i s raw then some s else none:=by
    rw[<-hN,hn,hraw];rfl
   have hjw:w.heap[bj]?=some (Bl TJ (JB bd J)):=by rw[H.ext.block bj (Al h) (by simp)];exact h
   refine Aq (Aa (Ar (AD (Ad (Ae U (Ac U (qA (BR [([0,1,2,3,4,5],6),([],7),([8,9,10,11],12)] (fun z=>z.heap[bj]?=some (Bl TJ (JB bd J))) [] mixed (hjw) ?_))))))));refine AB U U (CE U (Bn U (AE MS U (BJ CY U (fun _ hx=>Ap hx (0+0)) ?_))));refine CE U (BM U (Bm ?_))
   skip
   refine Ah qB (TZ (show(World.drew w).heap[bj]?=_ from hjw) hJ i (by omega)) U ?_;rintro v w3 ⟨rfl,hx3⟩;replace H:=H.drew.call hx3;have hj3:w3.heap[bj]?=some (Bl TJ (JB bd J)):=by rw[hx3.block bj (Al hjw) (by simp)];exact hjw
   refine Ab (Bb (hj3) (AB U U ?_));refine Bm (Ah qB (QF (J.place i:Int) hfew (DA.keep0 H.ext)) U ?_);rintro v w4 ⟨s31,rfl,F31⟩;rw[hrB]at F31;rw[hrE];obtain⟨a31,c31,rfl,R31,hc31⟩:=Fresh.rdB F31;replace H:=H.call F31.ext;have hj4:w4.heap[bj]?=some (Bl TJ (JB bd J)):=by rw[F31.ext.block bj (Al hj3) (by simp)];exact hj3
   refine Ab (Bb (hj4) (AB U U ?_));refine H1 U (Cu U U (Cu U U (HF U U (Bm (Ac U (Ab (Bb (hj4) (B3 (Ar (Ad ?_))))))))));refine Ae U (AZ U U (qA (Bw U (Aq (Aa (Ad (Ai U (Ah qB (UJ a31 c31 _ raw _ R31 U hc31) U ?_))))))));rintro v w5 P39;obtain⟨a39,c39,rfl,hx39,R39,hc39⟩:=Aip P39;replace H:=H.call hx39;have hj5:w5.heap[bj]?=some (Bl TJ (JB bd J)):=by rw[hx39.block bj (Al hj4) (by simp)];exact hj4
   refine AM U (Ag U U (Ag U U (Ag U U (Ac U (Aj U (Ac U (qA (AD ?_))))))));have hxj:Ext [] w5 w5 := .refl _ _;have hbo:=Od raw;have hb2:=DX s.length;have hb3:=Ov s.length;have hp12:(CM J.seq i []).length=12:=by rw[Mu];rfl
   refine Ad (BB (α:=Unit) 8998403161718784 (fun _=>[(43,.bool (IJ J i raw))]) (fun _ w'=>Ctx w0 [] w' (ent a 5 full)/\Ext [] w5 w') U ?_ ?_)
   .refine Ae U (B1 U U (AC U (AX 46 U ?_ ?_)))
    .intro h1;replace h1:=AU h1;refine Ai U (An U (Ae U (Ah qB (RG hj5 hJ i none 0 0 [] Rd.nil U) U ?_)));rintro v w6 F50;obtain⟨a50,c50,rfl,R50,hc50⟩:=Fresh.rdB F50;replace H:=H.call F50.ext;replace hxj:=F50.ext;refine Ah qB (Ab5 a39 a50 c39 c50 _ _ (B6 raw) (CM J.seq i []) (R39.ext0 F50.ext) R50 U U hc39) U ?_;rintro v w7 ⟨rfl,rfl⟩;refine AQ U (.bool _) U (Am U (Ab ?_));exact⟨rfl,(),rfl,⟨qac Value.bool (by rw[qar];simp_all[IJ];try omega),trivial⟩,⟨H,hxj⟩⟩
    .intro h2;replace h2:=AV h2;refine Ak U (Ak U (Ak U (Ak U (Ak U (AN U (.bool _) U (Am U (Ab ?_)))))));exact⟨rfl,(),rfl,⟨qac Value.bool (by rw[qar];simp_all[IJ];try omega),trivial⟩,⟨H,hxj⟩⟩
   rintro - j43 w ⟨H,hx9⟩;have hj6:w.heap[bj]?=some (Bl TJ (JB bd J)):=by rw[hx9.block bj (Al hj5) (by simp)];exact hj5
   have R9:=R39.ext0 hx9;refine Au _ U ?_ ?_
   .intro h2
    have hpl12:12<=(B6 raw).length:=by
     have h3:=h2;simp only[IJ,RH,qao,qap]at h3;omega
    have hl60:(s++(B6 raw).drop 12).length=s.length+((B6 raw).length - ((12:Nat):Int).toNat):=by rw[qan,qbe];rfl
    refine Av (Ai U (Ai U (An U (Ae U (Ah qB (RG hj6 hJ i none 0 0 [] Rd.nil U) U ?_)))));rintro v w7 F57;obtain⟨a57,c57,rfl,R57,hc57⟩:=Fresh.rdB F57;replace H:=H.call F57.ext;rw[hp12];refine AO AW U (FR U AW CO U U ?_);refine Fk (L:=[]) U AW AW CO Pu HY U (((B6 raw).drop 12).map bv) U U H O (by simp) (HQ _) (Rd.appB ((R9.cut 12 c39 hc39).ext0 F57.ext)) ?_;rintro a60 c60 full60 w8 H O;rw[<-qaz,<-hl60]at O;rw[<-hl60];refine Aj U (Ab (AF (AF (Aa (Av (AA U U ?_))))));refine Ae U (qA ?_);refine⟨(i+1,s++(B6 raw).drop 12,a60,c60,full60),rfl,⟨rfl,rfl,trivial⟩,⟨by dsimp only;omega,by dsimp only;omega,H,O,?_⟩,by dsimp only;omega⟩;dsimp only;rw[hNx,if_pos h2,show J.size - J.taken - (i+1)=n by omega]
   .intro h2;have hxk:Ext [] w w := .refl _ _;refine Ad (BB (α:=Unit) 9671404251074024183955456 (fun _=>[(61,.bool (KM J i s raw))]) (fun _ w'=>Ctx w0 [] w' (ent a 5 full)) U ?_ ?_)
    .refine Ae U (B1 U U (AC U (AX 64 U ?_ ?_)))
     .intro h3;replace h3:=AU h3;refine Ae U (Ci U U (AQ U (.bool _) U (AC U (AX 68 U ?_ ?_))))
      .intro h4;replace h4:=AU h4;refine Ae U (Ai U (AO AW U (Ah qB (FN (s.length:Int) _) U ?_)));rintro v w7 ⟨rfl,rfl⟩;rw[Il];refine B4 U U ?_;refine B1 U U (AQ U (.bool _) U (AC U (AX 76 U ?_ ?_)))
       .intro h5;replace h5:=AU h5;refine Ai U (An U (Ai U (Ah qB (Ag4 hj6 hJ a c _ s U) U ?_)));rintro v w8 F80;obtain⟨a80,c80,rfl,R80,hc80⟩:=Fresh.rdB F80;replace H:=H.call F80.ext;refine Ah qB (WC a39 a80 c39 c80 _ _ (B6 raw) (Gv J.seq s) (R9.ext0 F80.ext) R80 U U) U ?_;rintro v w9 ⟨rfl,rfl⟩;refine AQ U (.bool _) U (Am U (Ab ?_));exact⟨rfl,(),rfl,⟨qac Value.bool (by rw[qar];simp_all[KM];try exact⟨fun hh=>⟨by omega,by omega,by omega,hh⟩,fun hh=>hh.2.2.2⟩),trivial⟩,H⟩
       .intro h6;replace h6:=AV h6;refine Ak U (Ak U (Ak U (Ak U (Ak U (AN U (.bool _) U (Am U (Ab ?_)))))));exact⟨rfl,(),rfl,⟨qac Value.bool (by rw[qar];simp_all[KM];try omega),trivial⟩,H⟩
      .intro h7;replace h7:=AV h7;refine Ak U (Ak U (Ak U (Ak U (Ak U (Ak U (AN U (.bool _) U (AC U (Ak U (Ak U ?_)))))))));refine Ak U (Ak U (Ak U (AN U (.bool _) U (Am U (Ab ?_)))));exact⟨rfl,(),rfl,⟨qac Value.bool (by rw[qar];simp_all[KM];try first|omega|exact⟨fun hh=>⟨by omega,by omega,by omega,hh⟩,fun hh=>hh.2.2.2⟩),trivial⟩,H⟩
     .intro h8;replace h8:=AV h8;refine Ak U (Ak U (AN U (.bool _) U (AC U (Ak U (Ak U (Ak U (Ak U (Ak U (Ak U ?_)))))))));refine AN U (.bool _) U (AC U (Ak U (Ak U (Ak U (Ak U (Ak U (AN U (.bool _) U (Am U (Ab ?_)))))))));exact⟨rfl,(),rfl,⟨qac Value.bool (by rw[qar];simp_all[KM];try omega),trivial⟩,H⟩
    rintro - j61 w H;refine Au _ U ?_ ?_
    .intro h3;obtain⟨a',c',he,R',hc',hb'⟩:=Fresh.newB (Ctx.fresh (L:=[]) H O)
     injection he with e1 _ e2
     subst e1 e2;refine Ad (Ai U (Aj U (Am U (Ac U (qA (Ax (AL (AL (Ao (Ao (AL (Ao (CG (v1:=(.slice _ _ _)) (v2:=(.bool _)) (v3:=(.int _ _)) U U U U U ?_)))))))))))));exact⟨by rw[hNx,if_neg (by rw[h2];simp),if_pos h3];exact⟨a,c,rfl,R',hc',hb',by omega⟩,H.ext⟩
    .intro h3;refine Ad (Aj U (Am U (Ac U (qA (Ax (AL (AL (Ao (Ao (AL (Ao (CG (v1:=(.slice _ _ _)) (v2:=(.bool _)) (v3:=(.int _ _)) U U U U U ?_))))))))))));exact⟨by rw[hNx,if_neg (by rw[h2];simp),if_neg (by rw[h3];simp)];exact rfl,H.ext⟩
  .intro h1;replace h1:=AV h1;have hi2:J.size - J.taken - i=0:=by omega
   rw[hi2]at hN;refine B9 (A8 (A8 (Bd (Aa (Ad (Aj U (Am U (Ac U (qA (Ax (CG (v1:=(.slice _ _ _)) (v2:=(.bool _)) (v3:=(.int _ _)) U U U U U ?_)))))))))));exact⟨by rw[<-hN];exact rfl,H.ext⟩
theorem Ow{A:Dev}{J:Jr}{s:Byt}:∀(n i:Nat) (s0:Byt),Ph A J n i s0=some s->∃j,i<=j/\j<i+n/\j=blk s.length - 1/\KM J j s (at' A (J.place j))=true
 |0,_,_,h=>by cases h
 |n+1,i,s0,h=>by
  unfold Ph at h
  split at h
  .obtain⟨j,h1,h2,h3⟩:=Ow n _ _ h;exact⟨j,by omega,by omega,h3⟩
  .split at h
   .rename_i h2
    cases h;refine⟨i,qaf _,by omega,?_,h2⟩;simp only[KM,qao,qap]at h2;exact h2.2.2.1
   .cases h
theorem Acb{A:Dev}{J:Jr}{s:Byt}(h:Hl A J=some s):J.taken+blk s.length<=J.size:=by
 obtain⟨j,h1,h2,h3,-⟩:=Ow _ _ _ h;have:=DX s.length;omega
theorem Jr.Ok.passes{J:Jr}(h:J.Ok)(hq:J.seq<=4611686018427387904+J.taken){n:Nat}(hf:J.taken+blk n<=J.size):(J.passes n).Ok/\(J.passes n).seq<=4611686018427387904+(J.passes n).taken:=by
 have h1:=h.s1;have h2:=h.s2;have h3:=DX n;have hm:=qbi (J.at'+blk n) (show 0<J.size by omega);refine⟨⟨h.s1,h.s2,hm,hf,?_⟩,?_⟩
 .show J.seq+1<=_;omega
 .show J.seq+1<=_+(J.taken+blk n);omega
def KN(A:Dev):Nat->Jr->List Byt × Jr
 |0,J=>([],J)
 |n+1,J=>match Hl A J with
  |none=>([],J)
  |some s=>(s::(KN A n (J.passes s.length)).1,(KN A n (J.passes s.length)).2)
def KO(A:Dev)(J:Jr):List Byt × Jr:=KN A (J.size+1) J
theorem RJ{A:Dev}{J:Jr}(n:Nat)(h:Hl A J=none):KN A (n+1) J=([],J):=by unfold KN;rw[h]
theorem RM{A:Dev}{J:Jr}(n:Nat){s:Byt}(h:Hl A J=some s):KN A (n+1) J=(s::(KN A n (J.passes s.length)).1,(KN A n (J.passes s.length)).2):=by
 show(match Hl A J with|none=>_|some s=>_)=_;rw[h]
structure Strs(w:World)(a:Option Addr)(n c:Nat)(L:List Byt):Prop where
 ex:∃xs:List SB,Rd w a 1 Afw xs/\xs.map (fun x=>x.2.1)=L/\∀x∈xs,RdS w x
 num:n=L.length
 le:n<=c
theorem Strs.ext0{w w':World}{a:Option Addr}{n c:Nat}{L:List Byt}(h:Strs w a n c L)(hx:Ext [] w w'):Strs w' a n c L :=
 let ⟨xs,R,hl,hr⟩:=h.ex;⟨⟨xs,R.ext0 hx,hl,fun x hm=>(hr x hm).ext0 hx⟩,h.num,h.le⟩
structure StrsF(N:Nat)(w:World)(a:Option Addr)(n c:Nat)(L:List Byt):Prop where
 ex:∃xs:List SB,Rd w a 1 Afw xs/\xs.map (fun x=>x.2.1)=L/\(∀x∈xs,RdS w x)/\(xs=[]\/N<=(adr a).block)/\∀x∈xs,x.2.1=[]\/N<=(adr x.1).block
 num:n=L.length
 le:n<=c
theorem StrsF.strs{N:Nat}{w:World}{a:Option Addr}{n c:Nat}{L:List Byt}(h:StrsF N w a n c L):Strs w a n c L :=
 let ⟨xs,R,hl,hr,_⟩:=h.ex;⟨⟨xs,R,hl,hr⟩,h.num,h.le⟩
theorem StrsF.side{N:Nat}{w w':World}{a:Option Addr}{n c:Nat}{L:List Byt}{S:List Nat}(h:StrsF N w a n c L)(hx:Ext S w w')(hS:∀x∈S,x<N):StrsF N w' a n c L:=by
 obtain⟨xs,R,hl,hr,ha,hb⟩:=h.ex;refine⟨⟨xs,?_,hl,fun x hm=>⟨?_,(hr x hm).2⟩,ha,hb⟩,h.num,h.le⟩
 .rcases ha with rfl|ha
  .exact Rd.nil
  .exact R.ext hx fun hm=>by have:=hS _ hm;omega
 .rcases hb x hm with h0|h0
  .rw[h0];exact Rd.nil
  .exact(hr x hm).1.ext hx fun hm=>by have:=hS _ hm;omega
theorem StrsF.ext0{N:Nat}{w w':World}{a:Option Addr}{n c:Nat}{L:List Byt}(h:StrsF N w a n c L)(hx:Ext [] w w'):StrsF N w' a n c L:=h.side hx fun x h=>by cases h
theorem StrsF.less{N M:Nat}{w:World}{a:Option Addr}{n c:Nat}{L:List Byt}(h:StrsF N w a n c L)(hN:M<=N):StrsF M w a n c L :=
 let ⟨xs,R,hl,hr,ha,hb⟩:=h.ex;⟨⟨xs,R,hl,hr,ha.imp id (qas hN),fun x hm=>(hb x hm).imp id (qas hN)⟩,h.num,h.le⟩
theorem Acc{s:Option Byt}{v:Value}{w w':World}(h:Akt s v w w'):∃a n c,v=.tuple #[.slice a n c,.bool s.isSome,.int .i64 0]/\∀x,s=some x->n=x.length/\RdS w' (a,x,c)/\x.length<=3000000/\(x=[]\/w.heap.size<=(adr a).block):=by
 cases s with
 |none=>exact⟨none,0,0,h,fun x hx=>by cases hx⟩
 |some x =>
  obtain⟨a,c,rfl,R,hc,hb,hm⟩:=h;exact⟨a,x.length,c,rfl,fun y hy=>by cases hy;exact⟨rfl,⟨R,hc⟩,hm,hb⟩⟩
def jr0(f z p:Int)(q:Nat):Jr:=⟨f.toNat,z.toNat,p.toNat,q,0,false⟩
theorem Acd{m:Nat}{f z p:Int}{q:Nat}(h:Eb m f z p q=true)(hm:m<=4096):(jr0 f z p q).Ok/\(jr0 f z p q).seq<=4611686018427387904+(jr0 f z p q).taken/\(jr0 f z p q).frm+(jr0 f z p q).size<=m:=by
 simp only[Eb,qao,qap]at h;refine⟨⟨?_,?_,?_,?_,?_⟩,?_,?_⟩ <;> simp only[jr0] <;> omega
theorem Ub{w:World}{bd:Nat}{A:Dev}{F:Nat->Prop}(f z p:Int)(q:Nat)(hf : -9223372036854775808<=f/\f<=9223372036854775807)(hz : -9223372036854775808<=z/\z<=9223372036854775807)(hm:A.B.length<=4096)(ho:A.on=true){mx:Nat}(hfew:Few A mx)(hmx:mx<=1000000000)(DA:DevAt w bd A F) :
  Ret prog 34 #[ptr bd,.int .i64 f,.int .i64 z,.int .i64 p,.int .u64 (q:Int)] w fun v w'=>Ext [] w w'/\((Eb A.B.length f z p q=false/\v=.tuple #[.pointer none,.slice none 0 0,.int .i64 1]) \/
   (Eb A.B.length f z p q=true/\∃bj a n c,v=.tuple #[ptr bj,.slice a n c,.int .i64 0]/\w.heap.size<=bj/\w'.heap[bj]?=some (Bl TJ (JB bd (KO A (jr0 f z p q)).2))/\StrsF w.heap.size w' a n c (KO A (jr0 f z p q)).1)):=by
 obtain⟨w0,rfl,H⟩:=qE w;obtain⟨bs,bm,hhd⟩:=DA.hd;refine A6 (fn:=f34) func34 U [.pointer (some ⟨bd,0,none⟩),.int .i64 f,.int .i64 z,.int .i64 p,.int .u64 (q:Int)] U ?_;refine Ad (B5 U (Aj U (Ac U (qA (Ar (AD (Ad (An U (BN LO U ?_)))))))));refine Am U (qA (Bw U (Ar (Ad (Ae U (Bt U U (Am U (qA (FF 8796089352192 (α:=Unit) (fun _=>[(19,.bool (!Eb A.B.length f z p q))]) (fun _ w'=>w0=w') U ?_ ?_)))))))))
 .skip
  refine Dj 19 U ?_ ?_
  .intro h1;replace h1:=AU h1;refine Aq (Aa ?_);exact⟨(),rfl,⟨qac Value.bool (by rw[qar];simp_all[Eb];try omega),trivial⟩,rfl⟩
  .intro h2;replace h2:=AV h2;refine Ad (Ae U (Bt U U (Am U (qA (Dj 19 U ?_ ?_)))))
   .intro h3;replace h3:=AU h3;refine Aq (Aa ?_);exact⟨(),rfl,⟨qac Value.bool (by rw[qar];simp_all[Eb];try omega),trivial⟩,rfl⟩
   .intro h4;replace h4:=AV h4;refine Ad (Ae U (An U (Ah qB (Gr hhd) U ?_)));rintro v w ⟨rfl,rfl⟩;refine Ci U U (Am U (qA (Dj 19 U ?_ ?_)))
    .intro h5;replace h5:=AU h5;refine Aq (Aa ?_);exact⟨(),rfl,⟨qac Value.bool (by rw[qar];simp_all[Eb];try omega),trivial⟩,rfl⟩
    .intro h6;replace h6:=AV h6;refine Ad (Ae U (An U (Ah qB (Gr hhd) U ?_)));rintro v w ⟨rfl,rfl⟩;refine Ae U (B4 U U ?_);refine Ci U U (Am U (qA (Dj 19 U ?_ ?_)))
     .intro h7;replace h7:=AU h7;refine Aq (Aa ?_);exact⟨(),rfl,⟨qac Value.bool (by rw[qar];simp_all[Eb];try omega),trivial⟩,rfl⟩
     .intro h8;replace h8:=AV h8;refine Ad (Ae U (Bt U U (Am U (qA (Dj 19 U ?_ ?_)))))
      .intro h9;replace h9:=AU h9;refine Aq (Aa ?_);exact⟨(),rfl,⟨qac Value.bool (by rw[qar];simp_all[Eb];try omega),trivial⟩,rfl⟩
      .intro h10;replace h10:=AV h10;refine Ad (Ae U (Ae U (HN U U (Am U (qA (Dj 19 U ?_ ?_))))))
       .intro h11;replace h11:=AU h11;refine Aq (Aa ?_);exact⟨(),rfl,⟨qac Value.bool (by rw[qar];simp_all[Eb];try omega),trivial⟩,rfl⟩
       .intro h12;replace h12:=AV h12;refine Ad (Ae U (Bt U U (Am U (qA (Dj 19 U ?_ ?_)))))
        .intro h13;replace h13:=AU h13;refine Aq (Aa ?_);exact⟨(),rfl,⟨qac Value.bool (by rw[qar];simp_all[Eb];try omega),trivial⟩,rfl⟩
        .intro h14;replace h14:=AV h14;refine Av (Ae U (Ci U U (Am U (qA ?_))));exact⟨(),rfl,⟨qac Value.bool (by rw[qar];simp_all[Eb];try omega),trivial⟩,rfl⟩
 .rintro - j19 w rfl;refine Dj 19 U ?_ ?_
  .intro h1;refine Ad (B5 U (Aj U (Ac U (qA (Ax (AL (Ao (CG (v1:=(.pointer _)) (v2:=(.slice _ _ _)) (v3:=(.int _ _)) U U U U U ?_))))))));exact⟨H.ext,.inl ⟨by simpa using h1,rfl⟩⟩
  .intro h1;have hr:Eb A.B.length f z p q=true:=by simpa using h1
   obtain⟨hJ0,hq0,hl0⟩:=Acd hr hm;have hr2:=hr;simp only[Eb,qao,qap]at hr2;obtain⟨J0,hJ0e⟩:=qD (jr0 f z p q);rw[<-hJ0e]at hJ0 hq0 hl0
   have hb0:[ptr bd,Value.int .i64 f,.int .i64 z,.int .i64 p,.int .u64 (q:Int),.int .i64 0,.bool false]=JB bd J0:=by
    rw[hJ0e];simp only[JB,jr0,qeo,Value.int.injEq,true_and,and_true];omega
   refine Aq (AF (Aa (Ad (An U (Ae U (Ae U (Ae U (Ae U (B0 [ptr bd,.int .i64 f,.int .i64 z,.int .i64 p,.int .u64 (q:Int),.int .i64 0,.bool false] Alt Aly ?_)))))))));rw[hb0];refine Co _ (.agg _) U U H ?_;rintro b49 w - H
   refine B5 U (qA (AD (BF 9444731839839383649280 (α:=List SB × Jr × Option Addr × Nat × List Value) (fun s=>[(10,ptr b49),(11,.slice s.2.2.1 s.1.length s.2.2.2.1)]) (fun s w'=>s.2.1.Ok/\s.2.1.seq<=4611686018427387904+s.2.1.taken/\s.2.1.frm=J0.frm/\s.2.1.size=J0.size/\s.1.length<=s.2.1.taken/\KO A J0=(s.1.map (fun x=>x.2.1)++(KN A (J0.size+1 - s.1.length) s.2.1).1,(KN A (J0.size+1 - s.1.length) s.2.1).2)/\Ctx w0 [] w' ([(b49,Bl TJ (JB bd s.2.1))]++ent s.2.2.1 24 s.2.2.2.2)/\OS s.2.2.1 s.1.length s.2.2.2.1 1 s.2.2.2.2 (s.1.map fun x => .slice x.1 x.2.1.length x.2.2)/\∀x∈s.1,RdS w' x/\(x.2.1=[]\/∀y∈[(b49,Bl TJ (JB bd s.2.1))]++ent s.2.2.1 24 s.2.2.2.2,y.1≠(adr x.1).block)/\(x.2.1=[]\/w0.heap.size<=(adr x.1).block)) (fun s=>J0.size - s.2.1.taken) ([],J0,none,0,[]) U ?_ ?_ ?_)))
   .exact⟨rfl,rfl,trivial⟩
   .exact⟨hJ0,hq0,rfl,rfl,qak _,rfl,H,OS.nil,fun x hx=>by cases hx⟩
   .rintro⟨xs,J,a,c,full⟩ j w ⟨hJ,hq,hfr,hsz,hk,hop,H,O,hxs⟩;dsimp only at hJ hq hfr hsz hk hop H O hxs;dsimp only;have hs1:=hJ.s1;have hs2:=hJ.s2;have hst:=hJ.t;refine AD (Ad (An U (Ah qB (Ai9 (H.get at0) hJ ho hfew hmx (DA.keep0 H.ext)) U ?_)));rintro v w2 ⟨hnv,hx2⟩;have hszw:=H.ext.size;have hlt1:∀y∈[(b49,Bl TJ (JB bd J))]++ent a 24 full,y.1<w.heap.size:=(fun y hy=>Al (H.blk y hy));replace H:=H.call hx2;obtain⟨a13,n13,c13,rfl,h13⟩:=Acc hnv;replace hxs:∀x∈xs,RdS w2 x/\(x.2.1=[]\/∀y∈[(b49,Bl TJ (JB bd J))]++ent a 24 full,y.1≠(adr x.1).block)/\(x.2.1=[]\/w0.heap.size<=(adr x.1).block):=(fun x hm=>⟨(hxs x hm).1.ext0 hx2,(hxs x hm).2⟩);refine AM U (Ag U U (Ag U U (Ag U U (Aj U (Am U (Ac U (qA (Ar (AD ?_)))))))));refine Ad (Ae U (AZ U U (Am U (qA (Bw U (Ad (AC U (Cl U (Am U ?_)))))))));refine qA (Au _ U ?_ ?_)
    .intro h2;replace h2:=CJ h2;have hn:Hl A J=none:=by cases hn:Hl A J <;> simp_all
     have ho2:KO A J0=(xs.map (fun x=>x.2.1),J):=by
      rw[hop,show J0.size+1 - xs.length=(J0.size - xs.length)+1 by omega,RJ _ hn,qa2]
     refine Ad (An U (Ai U (B5 U (Aj U (Ac U (qA (Ax (AL (Ao (AL (Ao (AL (CG (v1:=(.pointer _)) (v2:=(.slice _ _ _)) (v3:=(.int _ _)) U U U U U ?_)))))))))))));refine⟨H.ext,.inr ⟨hr,b49,a,xs.length,c,rfl,?_,?_,?_⟩⟩
     .exact(H.own _ (qae ..)).elim (fun h=>by cases h) id
     .rw[<-hJ0e,ho2];exact H.get at0
     .rw[<-hJ0e,ho2];refine⟨⟨xs,OS.rd1 (f:=fun x:SB => .slice x.1 x.2.1.length x.2.2) O (fun x hx=>H.blk x (qax _ hx)),rfl,fun x hm=>(hxs x hm).1,?_,fun x hm=>(hxs x hm).2.2⟩,(qal _).symm,O.le⟩
      cases a with
      |none=>exact .inl (qa9 (by have h8:=O.le;have h9:=O.none' rfl;omega))
      |some q=>exact .inr ((H.own (q.block,_) (qax _ (qaa.2 rfl))).elim (fun h=>by cases h) id)
    .intro h2;replace h2:=CK h2;obtain⟨s,hn⟩:∃s,Hl A J=some s:=by cases hn:Hl A J <;> simp_all
     obtain⟨rfl,hR,hsm,hsb⟩:=h13 s hn;have Hold:=H;replace H:=Ctx.startL (fun x hx=>Hold.blk x hx) Hold.nd;have hfit:=Acb hn;have hbt:=DX s.length;refine Aq (AF (Aa (Ad (Ai U (Ai U (BP [.slice a13 s.length c13] (.slice a13 s.length c13) Ew FA Tg U U U U H ?_))))));rintro b67 w3 - H;refine Cf (L:=[(b49,Bl TJ (JB bd J))]) Ew Ew FA Adz Tg U U U H O U (by simp[Bg]) ?_;rintro a68 c68 full68 w4 H O;refine Aj U (qA (Av (An U (Ai U (AO AW U (Ah qB (Ua (H.get at0) hJ s.length hfit) U ?_))))));rintro v w5 ⟨rfl,hj5,hx5⟩;replace H:=H.turn at0 _ hx5 hj5;refine Ab (AF (Aa ?_));have hgood:=hJ.passes hq hfit;have hlx:(xs++[((a13,s,c13):SB)]).length=xs.length+1:=by simp
     have hsz2:=hx2.size
     have hids:∀(x:SB),RdS w2 x->(x.2.1=[]\/∀y∈[(b49,Bl TJ (JB bd J))]++ent a 24 full,y.1≠(adr x.1).block) ->
       RdS w5 x/\(x.2.1=[]\/∀y∈[(b49,Bl TJ (JB bd (J.passes s.length)))]++ent a68 24 full68,y.1≠(adr x.1).block):=fun x hx hn=>by
      rcases hn with hn|hn
      .exact⟨⟨by rw[hn];exact Rd.nil,hx.2⟩,.inl hn⟩
      .refine⟨⟨hx.1.ext H.ext fun hm=>?_,hx.2⟩,?_⟩
       .obtain⟨y,hy,he⟩:=qah.1 hm;exact hn y hy he
       .rcases Go.Proofs.YtcpgbcabmcbclaaGreatDoor.Rd.lt8 hx.1 with h0|hlt
        .exact .inl h0
        .refine .inr fun y hy he=>?_
         rcases H.own y hy with hm|hm
         .obtain⟨y',hy',he'⟩:=qah.1 hm;exact hn y' hy' (he'.trans he)
         .omega
     refine⟨(xs++[(a13,s,c13)],J.passes s.length,a68,c68,full68),rfl,⟨rfl,qac (fun m=>Value.slice a68 m c68) hlx.symm,trivial⟩,⟨hgood.1,hgood.2,hfr,hsz,?_,?_,Ctx.nil_app (Ctx.back (L2:=[]) (Ctx.app_nil Hold) H),?_,fun x hm=>?_⟩,?_⟩
     .show(xs++[((a13,s,c13):SB)]).length<=J.taken+blk s.length;omega
     .dsimp only;rw[hop,hlx,show J0.size+1 - xs.length=(J0.size+1 - (xs.length+1))+1 by omega,RM _ hn,qaz,qa0];rfl
     .dsimp only;rw[hlx,qaz];exact O
     .dsimp only at hm |-
      rcases qau.1 hm with hm|hm
      .exact⟨(hids x (hxs x hm).1 (hxs x hm).2.1).1,(hids x (hxs x hm).1 (hxs x hm).2.1).2,(hxs x hm).2.2⟩
      .rw[qaa.1 hm];have h8:=hids _ hR (hsb.imp id fun h y hy he=>by have:=hlt1 y hy;dsimp only at he;omega);exact⟨h8.1,h8.2,hsb.imp id fun h=>by dsimp only;omega⟩
     .show J0.size - (J.taken+blk s.length)<J0.size - J.taken;omega
theorem Ag6{w:World}{bd:Nat}{A:Dev}{F:Nat->Prop}(f z p:Int)(q:Nat)(hm:A.B.length<=4096)(ho:A.on=true){mx:Nat}(hfew:Few A mx)(hmx:mx<=1000000000)(DA:DevAt w bd A F)(hf: -9223372036854775808<=f/\f<=9223372036854775807:=by omega)(hz: -9223372036854775808<=z/\z<=9223372036854775807:=by omega):
  Ret prog 34 #[ptr bd,.int .i64 f,.int .i64 z,.int .i64 p,.int .u64 (q:Int)] w fun v w'=>Ext [] w w'/\((Eb A.B.length f z p q=false/\v=.tuple #[.pointer none,.slice none 0 0,.int .i64 1]) \/
   (Eb A.B.length f z p q=true/\∃bj a n c,v=.tuple #[ptr bj,.slice a n c,.int .i64 0]/\w.heap.size<=bj/\w'.heap[bj]?=some (Bl TJ (JB bd (KO A (jr0 f z p q)).2))/\Strs w' a n c (KO A (jr0 f z p q)).1)) :=
 (Ub f z p q hf hz hm ho hfew hmx DA).mono fun _ _ ⟨hx,h⟩=>⟨hx,h.imp id fun⟨h1,bj,a,n,c,hv,hb,hj,hs⟩=>⟨h1,bj,a,n,c,hv,hb,hj,hs.strs⟩⟩
structure Rj where
 L:List Byt
 size:Nat
 first:Nat
 seq:Nat
def T5:Nat:=0
def RjB(a:Option Addr)(n c:Nat)(R:Rj):List Value:=[.slice a n c,.int .i64 (R.size:Int),.int .i64 (R.first:Int),.int .u64 (R.seq:Int)]
def B7(L:List Byt):Nat:=(L.map fun s=>blk s.length).sum
theorem Hm(L:List Byt)(s:Byt):B7 (L++[s])=B7 L+blk s.length:=by simp[B7]
theorem JK(L:List Byt):2*L.length<=B7 L:=by
 induction L with
 |nil=>simp[B7]
 |cons s L ih =>
  have:=DX s.length;have h:B7 (s::L)=blk s.length+B7 L:=by simp[B7]
  rw[h,qaw];omega
theorem YC(A B:List Byt):B7 (A++B)=B7 A+B7 B:=by simp[B7]
theorem WJ(L:List Byt)(i:Nat):B7 (L.take i)<=B7 L:=by
 have h:=YC (L.take i) (L.drop i);rw[qbl]at h;omega
theorem Aja(n:Nat):n<=480*blk n:=by unfold blk;omega
structure Rj.Ok(R:Rj):Prop where
 s1:2<=R.size
 s2:R.size<=4096
 a:R.first<R.size
 q:R.seq<=8000000000000000000
 t:B7 R.L<=R.size
def valS(x:SB):Value := .slice x.1 x.2.1.length x.2.2
structure RjR(w:World)(br:Nat)(R:Rj)(a:Option Addr)(c:Nat)(full:List Value)(xs:List SB):Prop where
 hd:w.heap[br]?=some (Bl T5 (RjB a R.L.length c R))
 os:OS a xs.length c 1 full (xs.map valS)
 blk:∀y∈ent a 24 full,w.heap[y.1]?=some y.2
 eq:xs.map (fun x=>x.2.1)=R.L
 str:∀x∈xs,RdS w x
 nd:∀y∈ent a 24 full,br≠y.1
 sep:∀x∈xs,x.2.1=[]\/((adr x.1).block≠br/\∀y∈ent a 24 full,y.1≠(adr x.1).block)
theorem RjR.num{w:World}{br:Nat}{R:Rj}{a:Option Addr}{c:Nat}{full:List Value}{xs:List SB}(h:RjR w br R a c full xs):xs.length=R.L.length:=by rw[<-h.eq,qal]
def RjAt(w:World)(br:Nat)(R:Rj)(G:Nat->Prop):Prop :=
 ∃a c full xs,RjR w br R a c full xs/\G br/\(∀y∈ent a 24 full,G y.1)/\∀x∈xs,x.2.1=[]\/G (adr x.1).block
theorem RjAt.keep{w w':World}{br:Nat}{R:Rj}{G:Nat->Prop}{S:List Nat}(h:RjAt w br R G)(hx:Ext S w w')(hn:∀x∈S,¬G x):RjAt w' br R G:=by
 obtain⟨a,c,full,xs,h,h1,h2,h3⟩:=h;have hb:∀b o,G b->w.heap[b]?=some o->w'.heap[b]?=some o:=fun b o hg hb=>by rw[hx.block b (Al hb) fun hm=>hn b hm hg];exact hb
 refine⟨a,c,full,xs,⟨hb _ _ h1 h.hd,h.os,fun y hy=>hb _ _ (h2 y hy) (h.blk y hy),h.eq,fun x hm=>?_,h.nd,h.sep⟩,h1,h2,h3⟩;refine⟨?_,(h.str x hm).2⟩
 rcases h3 x hm with h0|h0
 .rw[h0];exact Rd.nil
 .exact(h.str x hm).1.ext hx fun hm'=>hn _ hm' h0
theorem RjAt.hd{w:World}{br:Nat}{R:Rj}{G:Nat->Prop}(h:RjAt w br R G):∃a c xs,w.heap[br]?=some (Bl T5 (RjB a R.L.length c R))/\Rd w a 1 Afw xs/\xs.map (fun x=>x.2.1)=R.L/\(∀x∈xs,RdS w x)/\R.L.length<=c :=
 let ⟨a,c,_,xs,h,_⟩:=h;⟨a,c,xs,h.hd,OS.rd1 (f:=valS) h.os h.blk,h.eq,h.str,by have:=h.os.le;rw[h.num]at this;exact this⟩
def Rj.at'(R:Rj):Nat:=(R.first+B7 R.L) % R.size
theorem RjAt.mono{w:World}{br:Nat}{R:Rj}{G G':Nat->Prop}(h:RjAt w br R G)(hG:∀x,G x->G' x):RjAt w br R G' :=
 let ⟨a,c,full,xs,h,h1,h2,h3⟩:=h;⟨a,c,full,xs,h,hG _ h1,fun y hy=>hG _ (h2 y hy),fun x hx=>(h3 x hx).imp id (hG _)⟩
def RN(R:Rj)(b:Byt):Rj:=if R.size - B7 R.L<blk b.length then R else{ R with L:=R.L++[b] }
def WK(R:Rj)(b:Byt):Int:=if R.size - B7 R.L<blk b.length then 7 else 0
theorem Vc{R:Rj}(h:R.Ok)(b:Byt):(RN R b).Ok:=by
 unfold RN
 split
 .exact h
 .rename_i h1
  exact⟨h.s1,h.s2,h.a,h.q,by have:=h.t;show B7 (R.L++[b])<=R.size;rw[Hm];omega⟩
def Rj.forget(R:Rj):Rj:=⟨[],R.size,R.at',R.seq+R.L.length⟩
theorem PD{a i n:Nat}(ha:a<n)(hi:i<n):(a+i) % n=if a+i<n then a+i else a+i - n:=by
 split
 .exact qa7 (by assumption)
 .rw[Nat.mod_eq_sub_mod (by omega),qa7 (by omega)]
theorem Ox{J:Jr}(h:J.Ok){i j:Nat}(he:J.place i=J.place j)(hi:i<J.size:=by omega)(hj:j<J.size:=by omega):i=j:=by
 unfold Jr.place at he;rw[PD h.a hi,PD h.a hj]at he;have:=h.a
 split at he <;> split at he <;> omega
structure Pend(A:Dev)(N:Nat)(S:Nat->Byt)(P:Nat->List Byt):Prop where
 len:A.B.length=N
 get:∀p,p<N->A.B[p]?=some (S p,P p)
theorem Pend.at'{A:Dev}{N:Nat}{S:Nat->Byt}{P:Nat->List Byt}(h:Pend A N S P){p:Nat}(hp:p<N):at' A p=(P p).getLast?.getD (S p):=by
 unfold Go.Proofs.YtcpgbcabmcbclaaGreatDoor.at' stands;rw[qa6,h.get p hp];rfl
theorem Pend.less{A:Dev}{N:Nat}{S:Nat->Byt}{P:Nat->List Byt}(h:Pend A N S P):Pend A.less N S P:=⟨by rw[FJ];exact h.len,by rw[FJ];exact h.get⟩
theorem Vd{A:Dev}(h:A.left≠0)(ho:A.on=true):A.less.on=true/\A.less.left=(if A.left = -1 then -1 else A.left - 1):=by
 unfold Dev.less;rw[if_neg h]
 split
 .rename_i h1;exact⟨ho,h1⟩
 .exact⟨ho,rfl⟩
theorem WL{A:Dev}(h:A.left=0):A.less.on=false:=by
 unfold Dev.less;rw[if_pos h]
theorem Pend.write{A:Dev}{N:Nat}{S:Nat->Byt}{P:Nat->List Byt}(h:Pend A N S P)(ho:A.on=true){p:Nat}(hp:p<N){b:Byt}(hb:b.length=512) :
  (A.left=0/\De A p b=8/\(Cw A p b).on=false/\Pend (Cw A p b) N S P) \/
  (A.left≠0/\De A p b=0/\(Cw A p b).on=true/\(Cw A p b).left=(if A.left = -1 then -1 else A.left - 1)/\Pend (Cw A p b) N S (fun q=>if q=p then P q++[b]else P q)):=by
 have hh:A.has (p:Int)=true:=by
  unfold Dev.has;rw[h.len];simp only[qao,qap];omega
 unfold De Cw;rw[ho,hh,qam hb];unfold Dev.goes
 by_cases h0:A.left=0
 .rw[qam h0];exact .inl ⟨h0,rfl,WL h0,h.less⟩
 .rw[qai h0];obtain⟨h1,h2⟩:=Vd h0 ho;refine .inr ⟨h0,rfl,h1,h2,?_,fun q hq=>?_⟩
  .show(A.less.B.modify p _).length=N;rw[qee,FJ];exact h.len
  .show(A.less.B.modify p _)[q]?=_;rw[qcl,FJ,h.get q hq]
   by_cases hqp:q=p
   .rw[if_pos hqp];simp[hqp.symm]
   .rw[if_neg hqp];simp[Ne.symm hqp]
theorem Pend.flush{A:Dev}{N:Nat}{S:Nat->Byt}{P:Nat->List Byt}(h:Pend A N S P)(ho:A.on=true) :
  (A.left=0/\Df A=8/\(Cc A).on=false/\Pend (Cc A) N S P) \/
  (A.left≠0/\Df A=0/\(Cc A).on=true/\(Cc A).left=(if A.left = -1 then -1 else A.left - 1)/\Pend (Cc A) N (fun q=>(P q).getLast?.getD (S q)) (fun _=>[])):=by
 unfold Df Cc;rw[ho];unfold Dev.goes
 by_cases h0:A.left=0
 .rw[qam h0];exact .inl ⟨h0,rfl,WL h0,h.less⟩
 .rw[qai h0];obtain⟨h1,h2⟩:=Vd h0 ho;refine .inr ⟨h0,rfl,h1,h2,?_,fun q hq=>?_⟩
  .show(A.less.B.map _).length=N;rw[qal,FJ];exact h.len
  .show(A.less.B.map _)[q]?=_;rw[qav,FJ,h.get q hq];rfl
theorem Jo:∀{l:List (Byt × List Byt)} {picks:List Int} {p:Nat} {q:Byt × List Byt},l[p]?=some q->∃y,(DW l picks)[p]?=some (y,[])/\(y=q.1\/y∈q.2)
 | [],_,_,_,h=>by simp at h
 |x::l,picks,0,q,h=>by
  have hx:x=q:=by simpa using h
  subst hx;unfold DW
  split
  .exact⟨x.1,rfl,.inl rfl⟩
  .refine⟨_,rfl,?_⟩;unfold NZ
   split
   .exact .inl U
   .rw[qa6]
    cases hx:x.2[LQ x picks - 1]? with
    |none=>exact .inl rfl
    |some b=>exact .inr (qad hx)
 |x::l,picks,p+1,q,h=>by
  have h':l[p]?=some q:=by simpa using h
  unfold DW
  split
  .exact Jo h'
  .exact Jo h'
theorem Pend.on{A:Dev}{N:Nat}{S:Nat->Byt}{P:Nat->List Byt}(h:Pend A N S P)(ho:A.on=false)(picks:List Int) :
  (onD A picks).on=true/\(onD A picks).left = -1/\∃S',Pend (onD A picks) N S' (fun _=>[])/\∀p,p<N->S' p=S p\/S' p∈P p:=by
 unfold onD;rw[ho];refine⟨rfl,rfl,fun p=>((DW A.B picks).getD p (zeros,[])).1,⟨?_,fun p hp=>?_⟩,fun p hp=>?_⟩
 .show(DW A.B picks).length=N;rw[Ge];exact h.len
 .obtain⟨y,hy,_⟩:=Jo (picks:=picks) (h.get p hp);show(DW A.B picks)[p]?=_;rw[qa6,hy];rfl
 .obtain⟨y,hy,h1⟩:=Jo (picks:=picks) (h.get p hp);show((DW A.B picks).getD p (zeros,[])).1=_\/((DW A.B picks).getD p (zeros,[])).1∈_;rw[qa6,hy];exact h1
theorem Pend.new(n:Nat):Pend (EB n) n (fun _=>zeros) (fun _=>[]) :=
 ⟨by simp[EB],fun p hp=>by show(List.replicate n _)[p]?=_;rw[qed,if_pos hp]⟩
def piB(J:Jr)(b:Byt)(i:Nat):Byt:=DC 1 (CM J.seq i (Cp b i))
def enB(J:Jr)(b:Byt):Byt:=DC 2 (Gv J.seq b)
theorem ZN(J:Jr)(b:Byt)(i:Nat):(CM J.seq i (Cp b i)).length<=505:=by rw[Mu,Mw];omega
theorem ZO(J:Jr)(b:Byt):(Gv J.seq b).length<=505:=by rw[WA];omega
theorem Ajb(J:Jr)(b:Byt)(i:Nat):(piB J b i).length=512:=Fb (ZN J b i)
theorem Ajc(J:Jr)(b:Byt):(enB J b).length=512:=Fb (ZO J b)
structure Full(N:Nat)(S S':Nat->Byt)(J:Jr)(b:Byt):Prop where
 piece:∀i,i<blk b.length - 1->S' (J.place i)=piB J b i
 fin:S' (J.place (blk b.length - 1))=enB J b
 rest:∀p,p<N->(∀i,i<blk b.length->p≠J.place i)->S' p=S p
def MidJ(N:Nat)(S S':Nat->Byt)(J:Jr)(b:Byt):Prop:=∀p,p<N->S' p=S p\/∃i,i<blk b.length - 1/\p=J.place i/\S' p=piB J b i
def PSpec(J:Jr)(b:Byt)(m:Nat)(P:Nat->List Byt):Prop:=(∀i,i<m->P (J.place i)=[piB J b i])/\∀p,(∀i,i<m->p≠J.place i)->P p=[]
theorem PSpec.mid{N:Nat}{S S':Nat->Byt}{J:Jr}{b:Byt}{m:Nat}{P:Nat->List Byt}(h:PSpec J b m P)(hm:m<=blk b.length - 1)(hS:∀p,p<N->S' p=S p\/S' p∈P p):MidJ N S S' J b:=by
 intro p hp
 rcases hS p hp with h1|h1
 .exact .inl h1
 .by_cases hi:∃i,i<m/\p=J.place i
  .obtain⟨i,hi,rfl⟩:=hi;rw[h.1 i hi]at h1;exact .inr ⟨i,by omega,rfl,qaa.1 h1⟩
  .rw[h.2 p fun i h2 h3=>hi ⟨i,h2,h3⟩]at h1;cases h1
theorem ZP{A:Dev}{N:Nat}{S:Nat->Byt}{J:Jr}{b:Byt}(h:Pend A N S (fun _=>[]))(ho:A.on=true)(hl : -1<=A.left)(hJ:J.Ok)(hN:J.frm+J.size<=N):∀m,m<=J.size ->
  ((wrP A J b m).1=0/\(wrP A J b m).2.on=true /\ -1<=(wrP A J b m).2.left/\(A.left = -1->(wrP A J b m).2.left = -1)/\∃P,Pend (wrP A J b m).2 N S P/\PSpec J b m P) \/
  (A.left ≠ -1/\(wrP A J b m).1=8/\(wrP A J b m).2.on=false/\∃m' P,m'<=m/\Pend (wrP A J b m).2 N S P/\PSpec J b m' P)
 |0,_ => .inl ⟨rfl,ho,hl,id,fun _=>[],h,⟨fun i hi=>absurd hi (qcp _),fun _ _=>rfl⟩⟩
 |m+1,hm=>by
  have h9:wrP A J b (m+1)=if(wrP A J b m).1=0 then(N5 (wrP A J b m).2 J m 1 (CM J.seq m (Cp b m)),JI (wrP A J b m).2 J m 1 (CM J.seq m (Cp b m)))else wrP A J b m:=rfl
  rcases ZP h ho hl hJ hN m (by omega)with⟨h1,h2,h3,h4,P,hp,hs⟩|⟨h1,h2,h3,m',P,hm',hp,hs⟩
  .rw[h9,if_pos h1];have hpl:=hJ.place m
   rcases hp.write h2 (p:=J.place m) (by omega) (Ajb J b m)with⟨k1,k2,k3,k4⟩|⟨k1,k2,k3,k4,k5⟩
   .exact .inr ⟨fun h5=>by have:=h4 h5;omega,k2,k3,m,P,by omega,k4,hs⟩
   .refine .inl ⟨k2,k3,?_,fun h5=>?_,_,k5,fun i hi=>?_,fun p hn=>?_⟩
    .show -1<=(Cw _ _ _).left;rw[show(Cw (wrP A J b m).2 ((J.place m:Nat):Int) (DC 1 (CM J.seq m (Cp b m)))).left=_ from k4]
     split <;> omega
    .show(Cw _ _ _).left = -1;rw[show(Cw (wrP A J b m).2 ((J.place m:Nat):Int) (DC 1 (CM J.seq m (Cp b m)))).left=_ from k4,if_pos (h4 h5)]
    .by_cases him:i=m
     .subst him;dsimp only;rw[if_pos rfl,hs.2 _ fun j hj he=>by have:=Ox hJ he;omega];rfl
     .dsimp only;rw[if_neg fun he=>him (Ox hJ he)];exact hs.1 i (by omega)
    .dsimp only;rw[if_neg (hn m (by omega))];exact hs.2 p fun i hi=>hn i (by omega)
  .rw[h9,if_neg (by omega)];exact .inr ⟨h1,h2,h3,m',P,by omega,hp,hs⟩
theorem RO{A:Dev}{N:Nat}{S:Nat->Byt}{J:Jr}{b:Byt}(h:Pend A N S (fun _=>[]))(ho:A.on=true)(hl : -1<=A.left)(hJ:J.Ok)(hN:J.frm+J.size<=N)(hf:blk b.length<=J.size) :
  ((CN A J b).1=0/\(CN A J b).2.on=true /\ -1<=(CN A J b).2.left/\(A.left = -1->(CN A J b).2.left = -1)/\∃S',Pend (CN A J b).2 N S' (fun _=>[])/\Full N S S' J b) \/
  (A.left ≠ -1/\(CN A J b).1=8/\(CN A J b).2.on=false/\∃S1 P,Pend (CN A J b).2 N S1 P/\∀S',(∀p,p<N->S' p=S1 p\/S' p∈P p)->MidJ N S S' J b\/Full N S S' J b):=by
 have hb2:=DX b.length;unfold CN
 rcases ZP (b:=b) h ho hl hJ hN (blk b.length - 1) (by omega)with⟨h1,h2,h3,h4,P,hp,hs⟩|⟨h1,h2,h3,m',P,hm',hp,hs⟩
 .rw[if_pos h1];generalize wrP A J b (blk b.length - 1)=X at h1 h2 h3 h4 hp
  rcases hp.flush h2 with⟨k1,k2,k3,k4⟩|⟨k1,k2,k3,k4,k5⟩
  .rw[if_neg (by omega)];exact .inr ⟨fun h5=>by have:=h4 h5;omega,k2,k3,S,P,k4,fun S' hS => .inl (hs.mid (qaf _) hS)⟩
  .rw[if_pos k2];have hpl:=hJ.place (blk b.length - 1);obtain⟨S1,hS1⟩:=qD (fun q=>(P q).getLast?.getD (S q):Nat->Byt);rw[<-hS1]at k5;have hpi:∀i,i<blk b.length - 1->S1 (J.place i)=piB J b i:=fun i hi=>by rw[hS1];dsimp only;rw[hs.1 i hi];rfl
   have hre:∀p,(∀i,i<blk b.length - 1->p≠J.place i)->S1 p=S p:=fun p hp=>by rw[hS1];dsimp only;rw[hs.2 p hp];rfl
   have hmid1:∀p,S1 p=S p\/∃i,i<blk b.length - 1/\p=J.place i/\S1 p=piB J b i:=fun p=>by
    by_cases hi:∃i,i<blk b.length - 1/\p=J.place i
    .obtain⟨i,hi,rfl⟩:=hi;exact .inr ⟨i,hi,rfl,hpi i hi⟩
    .exact .inl (hre p fun i h2 h3=>hi ⟨i,h2,h3⟩)
   have hl1:(Cc X.2).left = -1\/0<=(Cc X.2).left:=by rw[k4];split <;> omega
   have hl2:A.left = -1->(Cc X.2).left = -1:=fun h5=>by rw[k4,if_pos (h4 h5)]
   generalize Cc X.2=Y at k3 k4 k5 hl1 hl2
   rcases k5.write k3 (p:=J.place (blk b.length - 1)) (by omega) (Ajc J b)with⟨j1,j2,j3,j4⟩|⟨j1,j2,j3,j4,j5⟩
   .rw[if_neg (show ¬N5 Y J (blk b.length - 1) 2 (Gv J.seq b)=0 from by rw[show N5 Y J (blk b.length - 1) 2 (Gv J.seq b)=8 from j2];decide)];refine .inr ⟨fun h5=>by have:=hl2 h5;omega,j2,j3,S1,_,j4,fun S' hS => .inl fun p hp=>?_⟩
    rcases hS p hp with h5|h5
    .rw[h5];exact hmid1 p
    .cases h5
   .rw[if_pos (show N5 Y J (blk b.length - 1) 2 (Gv J.seq b)=0 from j2)]
    have hl3:(JI Y J (blk b.length - 1) 2 (Gv J.seq b)).left = -1\/0<=(JI Y J (blk b.length - 1) 2 (Gv J.seq b)).left:=by
     rw[show(JI Y J (blk b.length - 1) 2 (Gv J.seq b)).left=_ from j4];split <;> omega
    have hl4:A.left = -1->(JI Y J (blk b.length - 1) 2 (Gv J.seq b)).left = -1:=fun h5=>by
     rw[show(JI Y J (blk b.length - 1) 2 (Gv J.seq b)).left=_ from j4,if_pos (hl2 h5)]
    have j3':(JI Y J (blk b.length - 1) 2 (Gv J.seq b)).on=true:=j3;have j5':Pend (JI Y J (blk b.length - 1) 2 (Gv J.seq b)) N S1 (fun q=>if q=J.place (blk b.length - 1)then[]++[enB J b]else[]):=j5;generalize JI Y J (blk b.length - 1) 2 (Gv J.seq b)=Z at hl3 hl4 j3' j5'
    have hfull:∀S':Nat->Byt,(∀p,p<N->p≠J.place (blk b.length - 1)->S' p=S1 p)->S' (J.place (blk b.length - 1))=enB J b->Full N S S' J b:=fun S' e1 e2=>by
     refine⟨fun i hi=>?_,e2,fun p hp hn=>?_⟩
     .have:=hJ.place i;rw[e1 _ (by omega) fun he=>by have:=Ox hJ he;omega];exact hpi i hi
     .rw[e1 p hp (hn _ (by omega))];exact hre p fun i hi=>hn i (by omega)
    rcases j5'.flush j3' with⟨i1,i2,i3,i4⟩|⟨i1,i2,i3,i4,i5⟩
    .refine .inr ⟨fun h5=>by have:=hl4 h5;omega,i2,i3,S1,_,i4,fun S' hS=>?_⟩
     by_cases he:S' (J.place (blk b.length - 1))=S1 (J.place (blk b.length - 1))
     .refine .inl fun p hp=>?_
      have h6:S' p=S1 p:=by
       by_cases hpe:p=J.place (blk b.length - 1)
       .rw[hpe];exact he
       .rcases hS p hp with h5|h5
        .exact h5
        .rw[if_neg hpe]at h5;cases h5
      rw[h6];exact hmid1 p
     .refine .inr (hfull S' (fun p hp hpe=>?_) ?_)
      .rcases hS p hp with h5|h5
       .exact h5
       .rw[if_neg hpe]at h5;cases h5
      .rcases hS _ (show J.place (blk b.length - 1)<N by omega)with h5|h5
       .exact absurd h5 he
       .rw[if_pos rfl]at h5;exact qaa.1 h5
    .refine .inl ⟨i2,i3,by rw[i4];split <;> omega,fun h5=>by rw[i4,if_pos (hl4 h5)],_,i5,hfull _ (fun p hp hpe=>?_) ?_⟩
     .rw[if_neg hpe];rfl
     .rw[if_pos rfl];rfl
 .rw[if_neg (by omega)];exact .inr ⟨h1,h2,h3,S,P,hp,fun S' hS => .inl (hs.mid hm' hS)⟩
theorem KP{k:UInt8}{l:Byt}(h:l.length<=505)(hk:k.toNat≠0:=by decide):Dg (DC k l)=k:=by
 unfold Dg;rw[Ll hk h,Lk];rfl
theorem KQ{k:UInt8}{l:Byt}(h:l.length<=505)(hk:k.toNat≠0:=by decide):B6 (DC k l)=l:=by
 unfold B6;rw[Ll hk h,Jf k h];rfl
theorem Ve:(Dg zeros).toNat=0:=by
 unfold Dg;cases decide (Ez zeros=0) <;> rfl
structure LiesJ(V:Nat->Byt)(J:Jr)(s:Byt):Prop where
 piece:∀i,i<blk s.length - 1->V (J.place i)=piB J s i
 fin:V (J.place (blk s.length - 1))=enB J s
theorem YD(s:Byt)(i:Nat):s.take (480*i)++Cp s i=s.take (480*(i+1)):=by
 unfold Cp;rw[show 480*(i+1)=480*i+480 by omega,List.take_add]
theorem YE(q i:Nat)(c:Byt):RH (CM q i c) (CM q i [])=true/\(CM q i c).drop 12=c:=by
 have h12:(Bo q 8++Bo i 4).length=12:=by simp[AP]
 unfold RH CM;rw[qa2,h12,qcn (by omega),qa5 (by omega),qeb (by omega),qbx (by omega)];simp[AP];omega
theorem RP{A:Dev}{J:Jr}{s:Byt}(h:LiesJ (at' A) J s):∀n i,blk s.length<=i+n->i<=blk s.length - 1->Ph A J n i (s.take (480*i))=some s
 |0,i,h1,h2=>by have:=DX s.length;omega
 |n+1,i,h1,h2=>by
  unfold Ph
  by_cases hi:i<blk s.length - 1
  .have hv:=h.piece i hi;have hb:B6 (at' A (J.place i))=CM J.seq i (Cp s i):=by rw[hv];exact KQ (ZN J s i)
   have hk:(Dg (at' A (J.place i))).toNat=1:=by rw[hv,show Dg (piB J s i)=1 from KP (ZN J s i)];rfl
   obtain⟨p1,p2⟩:=YE J.seq i (Cp s i);rw[if_pos (by unfold IJ;rw[hb,p1,qam hk];rfl),hb,p2,YD];exact RP h n (i+1) (by omega) (by omega)
  .have hie:i=blk s.length - 1:=by omega
   subst hie;have hv:=h.fin;have hb:B6 (at' A (J.place (blk s.length - 1)))=Gv J.seq s:=by rw[hv];exact KQ (ZO J s)
   have hk:(Dg (at' A (J.place (blk s.length - 1)))).toNat=2:=by rw[hv,show Dg (enB J s)=2 from KP (ZO J s)];rfl
   have hs:s.take (480*(blk s.length - 1))=s:=qa5 (by unfold blk;omega);rw[hs,if_neg (by unfold IJ;rw[hk];simp),if_pos];unfold KM;have:=DX s.length;rw[hb,qam hk,qam (show 0<blk s.length - 1 by omega)];simp
theorem YF{A:Dev}{J:Jr}{s:Byt}(h:LiesJ (at' A) J s)(hf:J.taken+blk s.length<=J.size):Hl A J=some s:=by
 unfold Hl;have:=RP h (J.size - J.taken) 0 (by omega) (by have:=DX s.length;omega)
 simpa using this
def Qs(V:Nat->Byt)(frm size q:Nat):Prop:=∀p,frm<=p->p<frm+size->(Dg (V p)).toNat=2->numN ((B6 (V p)).take 8)<q
theorem WM{q:Nat}(s:Byt)(hq:q<18446744073709551616):numN ((Gv q s).take 8)=q:=by
 unfold Gv;rw[qa0,qcn (by rw[AP];exact qaf _),qa5 (by rw[AP];exact qaf _),EH,qa7 (by omega)]
theorem WN{J:Jr}(h:J.Ok)(i:Nat):J.frm<=J.place i/\J.place i<J.frm+J.size:=⟨qck ..,h.place i⟩
theorem YG{A:Dev}{J:Jr}(hJ:J.Ok)(h:Qs (at' A) J.frm J.size J.seq):Hl A J=none:=by
 cases hs:Hl A J with
 |none=>rfl
 |some s =>
  obtain⟨j,-,-,-,he⟩:=Ow _ _ _ hs;simp only[KM,qao,qap]at he;have hq:=hJ.q;have h1:=h _ (WN hJ j).1 (WN hJ j).2 he.1;rw[he.2.2.2,WM s (by omega)]at h1;omega
def Rj.pl(frm:Nat)(R:Rj)(k:Nat):Nat:=frm+(R.first+k) % R.size
theorem Rj.pl_inj{frm:Nat}{R:Rj}(h:R.Ok){k l:Nat}(hk:k<R.size)(hl:l<R.size)(he:R.pl frm k=R.pl frm l):k=l:=by
 unfold Rj.pl at he;rw[PD h.a hk,PD h.a hl]at he;have:=h.a
 split at he <;> split at he <;> omega
def jrK(frm:Nat)(R:Rj)(L:List Byt):Jr:=⟨frm,R.size,(R.first+B7 L) % R.size,R.seq+L.length,B7 L,false⟩
theorem Lz(frm:Nat)(R:Rj)(L:List Byt)(i:Nat):(jrK frm R L).place i=R.pl frm (B7 L+i):=by
 unfold Jr.place jrK Rj.pl;dsimp only;rw[Nat.mod_add_mod,qcs]
theorem My(frm:Nat)(R:Rj)(L:List Byt)(s:Byt):(jrK frm R L).passes s.length=jrK frm R (L++[s]):=by
 unfold Jr.passes jrK;rw[Hm,qan];dsimp only;rw[Nat.mod_add_mod];simp[qcs]
theorem Ag7{frm:Nat}{R:Rj}(h:R.Ok)(hf:frm+R.size<=4096){L:List Byt}(hL:B7 L<=R.size):(jrK frm R L).Ok:=by
 have h1:=h.s1;have h2:=h.s2;have h3:=h.q;have h4:=JK L;exact⟨h1,hf,qbi _ (by omega),hL,by show R.seq+L.length<=_;omega⟩
structure HeldJ(V:Nat->Byt)(frm:Nat)(R:Rj):Prop where
 lies:∀k s,R.L[k]?=some s->LiesJ V (jrK frm R (R.L.take k)) s
 old:Qs V frm R.size (R.seq+R.L.length)
theorem Uc{L:List Byt}{k:Nat}{s:Byt}(h:L[k]?=some s):B7 (L.take k)+blk s.length<=B7 L:=by
 have h1:=WJ L (k+1);rw[Bx h,Hm]at h1;exact h1
theorem Ud{A:Dev}{frm:Nat}{R:Rj}(hR:R.Ok)(hf:frm+R.size<=4096)(h:HeldJ (at' A) frm R):∀n k,k<=R.L.length->R.L.length<k+n->KN A n (jrK frm R (R.L.take k))=(R.L.drop k,jrK frm R R.L)
 |0,k,h1,h2=>by omega
 |n+1,k,h1,h2=>by
  by_cases hk:k<R.L.length
  .obtain⟨s,hs⟩:=AR (l:=R.L) (i:=k) (h:=hk);have ht:=Uc hs;have hRt:=hR.t;have hn:Hl A (jrK frm R (R.L.take k))=some s:=YF (h.lies k s hs) (by show B7 (R.L.take k)+blk s.length<=R.size;omega);rw[RM n hn,My,<-Bx hs,Ud hR hf h n (k+1) (by omega) (by omega)]
   have hd:R.L.drop k=s::R.L.drop (k+1):=by
    rw[qdv hk];rw[qbg hk]at hs;rw[qby hs]
   rw[hd]
  .have hke:k=R.L.length:=by omega
   subst hke;rw[qbb,List.drop_length];exact RJ n (YG (Ag7 hR hf hR.t) h.old)
theorem Ace{A:Dev}{frm:Nat}{R:Rj}(hR:R.Ok)(hf:frm+R.size<=4096)(h:HeldJ (at' A) frm R):KO A (jr0 frm R.size R.first R.seq)=(R.L,jrK frm R R.L):=by
 have h0:jr0 frm R.size R.first R.seq=jrK frm R (R.L.take 0):=by
  unfold jr0 jrK;rw[qds];simp only[B7,qbr,qc9,qc3,qbw,qbm,qa7 hR.a]
 have h4:=JK R.L;have h5:=hR.t;unfold KO;rw[h0,Ud hR hf h _ 0 (qak _) (by show R.L.length<0+(R.size+1);omega),List.drop_zero]
theorem HeldJ.congr{V V':Nat->Byt}{frm:Nat}{R:Rj}(h:HeldJ V frm R)(hR:R.Ok)(he:∀p,frm<=p->p<frm+R.size->V' p=V p):HeldJ V' frm R:=by
 have hin:∀L i,V' ((jrK frm R L).place i)=V ((jrK frm R L).place i):=fun L i=>by
  have:=qbi (R.first+(B7 L+i)) (show 0<R.size by have:=hR.s1;omega);rw[Lz];exact he _ (qck ..) (by unfold Rj.pl;omega)
 exact⟨fun k s hs=>⟨fun i hi=>by rw[hin];exact(h.lies k s hs).piece i hi,by rw[hin];exact(h.lies k s hs).fin⟩,fun p h1 h2 h3=>by rw[he p h1 h2]at h3 |-;exact h.old p h1 h2 h3⟩
theorem HeldJ.zeros{frm:Nat}{R:Rj}(hL:R.L=[]):HeldJ (fun _=>zeros) frm R :=
 ⟨fun k s hs=>(by rw[hL]at hs;cases hs),fun p _ _ h=>(by rw[Ve]at h;cases h)⟩
theorem HeldJ.old_at{V V':Nat->Byt}{N frm:Nat}{R:Rj}{b:Byt}(h:HeldJ V frm R)(hR:R.Ok)(hN:frm+R.size<=N)(hf:B7 R.L+blk b.length<=R.size)(he:∀p,p<N->(∀i,i<blk b.length->p≠(jrK frm R R.L).place i)->V' p=V p):∀k s,R.L[k]?=some s->LiesJ V' (jrK frm R (R.L.take k)) s:=by
 intro k s hs;have ht:=Uc hs
 have hkey:∀i,i<blk s.length->V' ((jrK frm R (R.L.take k)).place i)=V ((jrK frm R (R.L.take k)).place i):=fun i hi=>by
  refine he _ ?_ fun j hj hp=>?_
  .have:=qbi (R.first+(B7 (R.L.take k)+i)) (show 0<R.size by have:=hR.s1;omega);rw[Lz];unfold Rj.pl;omega
  .rw[Lz,Lz]at hp;have:=R.pl_inj hR (by omega) (by omega) hp;omega
 have hb2:=DX s.length;exact⟨fun i hi=>by rw[hkey i (by omega)];exact(h.lies k s hs).piece i hi,by rw[hkey _ (by omega)];exact(h.lies k s hs).fin⟩
theorem ZQ(J:Jr)(b:Byt)(i:Nat):(Dg (piB J b i)).toNat=1:=by rw[show Dg (piB J b i)=1 from KP (ZN J b i)];rfl
theorem HeldJ.mid{V V':Nat->Byt}{N frm:Nat}{R:Rj}{b:Byt}(h:HeldJ V frm R)(hR:R.Ok)(hN:frm+R.size<=N)(hf:B7 R.L+blk b.length<=R.size)(hm:MidJ N V V' (jrK frm R R.L) b):HeldJ V' frm R:=by
 refine⟨h.old_at hR hN hf fun p hp hn=>?_,fun p h1 h2 h3=>?_⟩
 .rcases hm p hp with h5|⟨i,hi,he,_⟩
  .exact h5
  .exact absurd he (hn i (by omega))
 .rcases hm p (by omega)with h5|⟨i,hi,he,h5⟩
  .rw[h5]at h3 |-;exact h.old p h1 h2 h3
  .rw[h5,ZQ]at h3;cases h3
theorem HeldJ.full{V V':Nat->Byt}{N frm:Nat}{R:Rj}{b:Byt}(h:HeldJ V frm R)(hR:R.Ok)(hN:frm+R.size<=N)(hf:B7 R.L+blk b.length<=R.size)(hm:Full N V V' (jrK frm R R.L) b):HeldJ V' frm { R with L:=R.L++[b] }:=by
 have hb2:=DX b.length;have hold:=h.old_at hR hN hf hm.rest;refine⟨fun k s hs=>?_,fun p h1 h2 h3=>?_⟩
 .by_cases hk:k<R.L.length
  .have hs':R.L[k]?=some s:=by rw[<-qdh hk (l₂:=[b])];exact hs
   have h9:=hold k s hs';show LiesJ V' (jrK frm { R with L:=R.L++[b] } ((R.L++[b]).take k)) s;rw[qcn (by omega)];exact h9
  .have hke:k=R.L.length:=by
    have:=(qaq.1 hs).1;simp only[qan,qbu]at this;omega
   subst hke
   have hsb:s=b:=by
    have h9:(R.L++[b])[R.L.length]?=some s:=hs;rw[qc2 (qaf _),qc6]at h9;exact(qby h9).symm
   subst hsb;show LiesJ V' (jrK frm { R with L:=R.L++[s] } ((R.L++[s]).take R.L.length)) s;rw[qcn (qaf _),qbb];exact⟨hm.piece,hm.fin⟩
 .show _<R.seq+(R.L++[b]).length;have h2':p<frm+R.size:=h2;rw[qan,qbu]
  by_cases hi:∃i,i<blk b.length/\p=(jrK frm R R.L).place i
  .obtain⟨i,hi,rfl⟩:=hi
   by_cases hil:i<blk b.length - 1
   .rw[hm.piece i hil,ZQ]at h3;cases h3
   .have hie:i=blk b.length - 1:=by omega
    subst hie;have hq:=hR.q;have h4:=JK R.L;have h5:=hR.s2;rw[hm.fin,show B6 (enB (jrK frm R R.L) b)=Gv (R.seq+R.L.length) b from KQ (ZO _ b),WM b (by have:=hR.t;omega)];omega
  .have h5:=hm.rest p (by omega) fun i h6 h7=>hi ⟨i,h6,h7⟩;rw[h5]at h3 |-;have:=h.old p h1 h2' h3;omega
theorem HeldJ.forget{V:Nat->Byt}{frm:Nat}{R:Rj}(h:HeldJ V frm R):HeldJ V frm R.forget :=
 ⟨fun k s hs=>(by cases hs),h.old⟩
theorem YH{frm:Nat}{R:Rj}(hR:R.Ok):jrK frm R.forget []={ jrK frm R R.L with taken:=0 }:=by
 have h1:=qbi (R.first+B7 R.L) (show 0<R.size by have:=hR.s1;omega);unfold jrK Rj.forget Rj.at';simp only[B7,qbr,qc9,qc3,qbw,Jr.mk.injEq,and_true,true_and];exact qa7 h1
theorem Ue{R:Rj}(h:R.Ok)(hq:R.seq+R.L.length<=8000000000000000000):R.forget.Ok :=
 ⟨h.s1,h.s2,qbi _ (by have:=h.s1;omega),hq,qak _⟩
def Fj(F:Nat->Prop)(bj:Nat):Nat->Prop:=fun x=>F x\/x=bj
structure Jone(w0 w:World)(bd bj:Nat)(A:Dev)(J:Jr)(F:Nat->Prop):Prop where
 own:Own w0 w bd A F
 jr:w.heap[bj]?=some (Bl TJ (JB bd J))
 nF:¬F bj
 ge:w0.heap.size<=bj
section
variable {w0 w w':World}{bd bj bj' br:Nat}{A A':Dev}{J J':Jr}{R R':Rj}{F F' G:Nat->Prop}{N frm:Nat}
theorem Jone.at(O:Jone w0 w bd bj A J F)(x:Nat)(h:Fj F bj x):w0.heap.size<=x/\x<w.heap.size:=by
 rcases h with h|rfl
 .exact O.own.own x h
 .exact⟨O.ge,Al O.jr⟩
theorem Grown.call{F:Nat->Prop}{w w':World}(hx:Ext [] w w'):Grown F F w w':=⟨.of0 hx,fun _ h => .inl h⟩
theorem Jone.call(O:Jone w0 w bd bj A J F)(hx:Ext [] w w'):Jone w0 w' bd bj A J F :=
 ⟨O.own.call hx,by rw[hx.block bj (Al O.jr) (by simp)];exact O.jr,O.nF,O.ge⟩
theorem Jone.dev(O:Jone w0 w bd bj A J F)(h:Own w0 w' bd A' F'/\Grown F F' w w'):Jone w0 w' bd bj A' J F'/\Grown (Fj F bj) (Fj F' bj) w w':=by
 obtain⟨h,⟨S,hS,hx⟩,hg⟩:=h;have hlt:=Al O.jr;refine⟨⟨h,?_,fun hb=>(hg bj hb).elim O.nF fun h5=>by omega,O.ge⟩,⟨S,fun x h => .inl (hS x h),hx⟩,fun x h=>?_⟩
 .rw[hx.block bj hlt fun hm=>O.nF (hS _ hm)];exact O.jr
 .rcases h with h|h
  .exact(hg x h).imp .inl id
  .exact .inl (.inr h)
theorem Jone.back(O:Jone w0 w bd bj A J F)(D:Dv w w' bd A' (Fj F bj) F' [(bj,Bl TJ (JB bd J'))]):Jone w0 w' bd bj A' J' F'/\Grown (Fj F bj) (Fj F' bj) w w':=by
 have hnew:=D.turn.new O.own.ext fun x h=>(O.at x h).1;have hoff:=D.off _ (qae ..);have hsz:=O.own.ext.size;refine⟨⟨⟨hnew,D.dev,fun x hx=>⟨?_,D.lt x hx⟩⟩,D.blk _ (qae ..),hoff,O.ge⟩,D.turn,fun x hx=>?_⟩
 .rcases D.own x hx with h|h
  .exact(O.at x h).1
  .omega
 .rcases hx with hx|hx
  .exact(D.own x hx).imp id And.left
  .exact .inl (.inr hx)
theorem WO(O:Jone w0 w bd bj A J F)(hJ:J.Ok)(a:Option Addr)(c n:Nat)(b:Byt)(R:Rd w a 1 B8 b)(hn:b.length=n)(hm:n<=900000)(hc:n<=c)(hFa:b=[]\/¬Fj F bj (adr a).block){mx:Nat}(hfew:Few A mx)(hmx:mx<=1000000000:=by decide):
  Ret prog 48 #[ptr bj,.slice a n c] w fun v w'=>v=.int .i64 (ND A J b)/\∃F',Jone w0 w' bd bj (HB A J b) (NE A J b) F'/\Grown (Fj F bj) (Fj F' bj) w w' :=
 (Aca O.jr hJ a c n b R hn hm hc (fun x h=>(O.own.own x h).2) O.nF (hFa.imp id fun h k=>h (.inl k)) hfew hmx O.own.dev).mono fun _ _ ⟨hv,F',D⟩=>⟨hv,F',O.back D⟩
theorem Acf(O:Own w0 w bd A F)(f z p q:Nat)(hr:Eb A.B.length f z p q=true)(ho:A.on=true){mx:Nat}(hfew:Few A mx)(hmx:mx<=1000000000:=by decide):
  Ret prog 34 #[ptr bd,.int .i64 (f:Int),.int .i64 (z:Int),.int .i64 (p:Int),.int .u64 (q:Int)] w fun v w'=>∃bj a n c,v=.tuple #[ptr bj,.slice a n c,.int .i64 0]/\Ext [] w w'/\w.heap.size<=bj/\Jone w0 w' bd bj A (KO A (jr0 f z p q)).2 F/\Strs w' a n c (KO A (jr0 f z p q)).1:=by
 have hhi:=O.dev.wf.hi;have hr2:=hr;simp only[Eb,qao,qap]at hr2;refine(Ag6 (f:Int) (z:Int) (p:Int) q hhi ho hfew hmx O.dev).mono fun v w' ⟨hx,h⟩=>?_
 rcases h with⟨h1,_⟩|⟨_,bj,a,n,c,hv,hb,hj,hs⟩
 .rw[hr]at h1;cases h1
 .have hsz:=O.ext.size;exact⟨bj,a,n,c,hv,hx,hb,⟨O.call hx,hj,fun h5=>by have:=(O.own bj h5).2;omega,by omega⟩,hs⟩
structure Jtwo(w0 w:World)(bd bj br:Nat)(A:Dev)(J:Jr)(R:Rj)(F G:Nat->Prop):Prop where
 one:Jone w0 w bd bj A J F
 ref:RjAt w br R G
 g:∀x,G x->w0.heap.size<=x/\x<w.heap.size
 fg:∀x,Fj F bj x->¬G x
theorem Jtwo.go(T:Jtwo w0 w bd bj br A J R F G)(h:Jone w0 w' bd bj' A' J' F'/\Grown (Fj F bj) (Fj F' bj') w w'):Jtwo w0 w' bd bj' br A' J' R F' G/\Still (Fj F bj) G (Fj F' bj') G w w':=by
 obtain⟨h,⟨S,hS,hx⟩,hg⟩:=h;have hsz:=hx.size;refine⟨⟨h,T.ref.keep hx fun x hm hgx=>T.fg x (hS x hm) hgx,fun x hgx=>⟨(T.g x hgx).1,by have:=(T.g x hgx).2;omega⟩,fun x hf hgx=>?_⟩,fun b hb h1 h2=>hx.block b hb fun hm=>h1 (hS b hm),fun b hb h1 h2=>⟨fun h5=>(hg b h5).elim h1 fun h6=>by omega,h2⟩,hsz⟩
 rcases hg x hf with h5|h5
 .exact T.fg x h5 hgx
 .have:=(T.g x hgx).2;omega
theorem Jtwo.call(T:Jtwo w0 w bd bj br A J R F G)(hx:Ext [] w w'):Jtwo w0 w' bd bj br A J R F G:=(T.go ⟨T.one.call hx,.call hx⟩).1
structure Good(N frm:Nat)(A:Dev)(R:Rj):Prop where
 ok:R.Ok
 fit:frm+R.size<=N
 lim:N<=4096
 on:A.on=true
 left : -1<=A.left
 held:∃S,Pend A N S (fun _=>[])/\HeldJ S frm R
theorem Pend.few{S:Nat->Byt}(h:Pend A N S (fun _=>[])):Few A 0:=fun p hp=>by
 obtain⟨i,hi⟩:=qce.1 hp;have hlt:=(qaq.1 hi).1;rw[h.get i (by rw[<-h.len];exact hlt)]at hi;rw[<-qby hi];exact qaf _
theorem Good.few(h:Good N frm A R):Few A 0:=let ⟨_,hp,_⟩:=h.held;hp.few
theorem Good.len(h:Good N frm A R):A.B.length=N:=let ⟨_,hp,_⟩:=h.held;hp.len
theorem Good.jok(h:Good N frm A R):(jrK frm R R.L).Ok:=Ag7 h.ok (qas h.fit h.lim) h.ok.t
theorem Good.open(h:Good N frm A R):KO A (jr0 frm R.size R.first R.seq)=(R.L,jrK frm R R.L):=by
 obtain⟨S,hp,hh⟩:=h.held;have hf:=h.fit;exact Ace h.ok (qas h.fit h.lim) (hh.congr h.ok fun p h1 h2=>hp.at' (by omega))
theorem Good.right(h:Good N frm A R)(hq:1<=R.seq)(hq2:R.seq<=4611686018427387904):Eb A.B.length frm R.size R.first R.seq=true:=by
 have h1:=h.fit;have h2:=h.ok.s1;have h3:=h.ok.a;have h4:=h.len;simp only[Eb,qao,qap];omega
theorem Good.new{n frm:Nat}{R:Rj}(hR:R.Ok)(hL:R.L=[])(hf:frm+R.size<=n)(hn:n<=4096):Good n frm (EB n) R :=
 ⟨hR,hf,hn,rfl,by show(-1:Int) <= -1;omega,_,Pend.new n,HeldJ.zeros hL⟩
theorem Good.forget(h:Good N frm A R)(hq:R.seq+R.L.length<=8000000000000000000):Good N frm A R.forget :=
 let ⟨S,hp,hh⟩:=h.held;⟨Ue h.ok hq,h.fit,h.lim,h.on,h.left,S,hp,hh.forget⟩
theorem Good.again{S:Nat->Byt}{P:Nat->List Byt}(hR:R.Ok)(hf:frm+R.size<=N)(hn:N<=4096)(ho:A.on=false)(hp:Pend A N S P)(hH:∀S',(∀p,p<N->S' p=S p\/S' p∈P p)->HeldJ S' frm R)(picks:List Int):Good N frm (onD A picks) R:=by
 obtain⟨h1,h2,S',h3,h4⟩:=hp.on ho picks;exact⟨hR,hf,hn,h1,by omega,S',h3,hH S' h4⟩
theorem Good.off(h:Good N frm A R)(picks:List Int):Good N frm (onD (LC A) picks) R:=by
 obtain⟨S,hp,hh⟩:=h.held;have hfit:=h.fit;refine Good.again (A:=LC A) (S:=S) (P:=fun _=>[]) h.ok h.fit h.lim U ⟨hp.len,hp.get⟩ (fun S' hS=>hh.congr h.ok fun p h1 h2=>?_) picks
 rcases hS p (by omega)with h5|h5
 .exact h5
 .cases h5
theorem Good.append(h:Good N frm A R)(b:Byt) :
  (ND A (jrK frm R R.L) b=WK R b/\Good N frm (HB A (jrK frm R R.L) b) (RN R b)/\NE A (jrK frm R R.L) b=jrK frm (RN R b) (RN R b).L/\(A.left = -1->(HB A (jrK frm R R.L) b).left = -1)) \/
  (A.left ≠ -1/\ND A (jrK frm R R.L) b=8/\WK R b=0/\(HB A (jrK frm R R.L) b).on=false/\NE A (jrK frm R R.L) b={ jrK frm R R.L with dead:=true }/\∀picks,Good N frm (onD (HB A (jrK frm R R.L) b) picks) R\/Good N frm (onD (HB A (jrK frm R R.L) b) picks) (RN R b)):=by
 obtain⟨S,hp,hh⟩:=h.held;have hR:=h.ok;have hRt:=hR.t;have hf:=h.fit;have hok:=Vc hR b;have hdd:¬(jrK frm R R.L).dead=true:=by simp[jrK]
 have hE:ND A (jrK frm R R.L) b=if R.size - B7 R.L<blk b.length then 7 else(CN A (jrK frm R R.L) b).1:=by unfold ND;rw[if_neg hdd];rfl
 have hD:HB A (jrK frm R R.L) b=if R.size - B7 R.L<blk b.length then A else(CN A (jrK frm R R.L) b).2:=by unfold HB;rw[if_neg hdd];rfl
 have hJ:NE A (jrK frm R R.L) b=if R.size - B7 R.L<blk b.length then jrK frm R R.L else if(CN A (jrK frm R R.L) b).1=0 then(jrK frm R R.L).passes b.length else{ jrK frm R R.L with dead:=true }:=by unfold NE;rw[if_neg hdd];rfl
 rw[hE,hD,hJ]
 by_cases hfull:R.size - B7 R.L<blk b.length
 .rw[if_pos hfull,if_pos hfull,if_pos hfull];unfold WK RN;rw[if_pos hfull,if_pos hfull];exact .inl ⟨rfl,h,rfl,id⟩
 .rw[if_neg hfull,if_neg hfull,if_neg hfull];have hfit:B7 R.L+blk b.length<=R.size:=by omega
  have hRE:WK R b=0:=by unfold WK;rw[if_neg hfull]
  have hRR:RN R b={ R with L:=R.L++[b] }:=by unfold RN;rw[if_neg hfull]
  rcases RO (b:=b) hp h.on h.left h.jok hf (by show blk b.length<=R.size;omega)with⟨h1,h2,h3,h4,S',h5,h6⟩|⟨h1,h2,h3,S1,P,h5,h6⟩
  .rw[if_pos h1,h1,hRE];refine .inl ⟨rfl,⟨hok,by rw[hRR];exact hf,h.lim,h2,h3,S',h5,by rw[hRR];exact hh.full hR hf hfit h6⟩,?_,h4⟩;rw[hRR];exact My frm R R.L b
  .rw[if_neg (by omega),hRE];refine .inr ⟨h1,h2,rfl,h3,rfl,fun picks=>?_⟩;obtain⟨k1,k2,S',k3,k4⟩:=h5.on h3 picks
   rcases h6 S' k4 with h7|h7
   .exact .inl ⟨hR,hf,h.lim,k1,by omega,S',k3,hh.mid hR hf hfit h7⟩
   .exact .inr ⟨hok,by rw[hRR];exact hf,h.lim,k1,by omega,S',k3,by rw[hRR];exact hh.full hR hf hfit h7⟩
end
section
variable {w0 w w':World}{bd bj:Nat}{A:Dev}{J:Jr}{R:Rj}{F:Nat->Prop}{N frm:Nat}
def Rj.more(R:Rj)(b:Byt):Rj:={ R with L:=R.L++[b] }
theorem Pi(O:Own w0 w bd A F)(g:Good N frm A R)(h1:1<=R.seq)(h2:R.seq<=4611686018427387904) :
  Ret prog 34 #[ptr bd,.int .i64 (frm:Int),.int .i64 (R.size:Int),.int .i64 (R.first:Int),.int .u64 (R.seq:Int)] w fun v w'=>∃bj a n c,v=.tuple #[ptr bj,.slice a n c,.int .i64 0]/\Ext [] w w'/\w.heap.size<=bj/\Jone w0 w' bd bj A (jrK frm R R.L) F/\Strs w' a n c R.L:=by
 have h:=Acf O frm R.size R.first R.seq (g.right h1 h2) g.on g.few
 rw[g.open]at h;exact h
theorem Acg(O:Jone w0 w bd bj A (jrK frm R R.L) F)(g:Good N frm A R) :
  Ret prog 46 #[ptr bj] w fun v w'=>v=.int .i64 ((R.size - B7 R.L:Nat):Int)/\Ext [] w w':=ZL O.jr g.jok
theorem Ach(O:Jone w0 w bd bj A (jrK frm R R.L) F) :
  Ret prog 35 #[ptr bj] w fun v w'=>v=.tuple #[.int .i64 (R.at':Int),.int .u64 ((R.seq+R.L.length:Nat):Int)]/\Ext [] w w':=ZM O.jr
theorem Jone.new(O:Jone w0 w bd bj A J F){a:Option Addr}{b:Byt}(_:Rd w' a 1 B8 b)(h:b=[]\/w.heap.size<=(adr a).block):b=[]\/¬Fj F bj (adr a).block :=
 h.imp id fun h hF=>by have:=(O.at _ hF).2;omega
end
def xA:Byt:=[97,98]
def xB:Byt:=W9 481 120
def xC:Byt:=W9 1920 121
def xD:Byt:=W9 1921 121
theorem Ame:xB.length=481:=TY ..
theorem Amf:xC.length=1920:=TY ..
def R0:Rj:=⟨[],10,0,1⟩
def R1:Rj:=R0.more xA
def R2:Rj:=R1.more xB
def R3:Rj:=R2.more xC
theorem t1:B7 R1.L=2:=by decide
theorem t2:B7 R2.L=5:=by
 show B7 ([xA]++[xB])=5;rw[Hm,Ame];decide
theorem t3:B7 R3.L=10:=by
 show B7 (R2.L++[xC])=10;rw[Hm,Amf,t2];decide
structure SG(N:Nat)(A:Dev)(R:Rj)(V:Nat->Byt):Prop where
 ok:R.Ok
 fit:2+R.size<=N
 lim:N<=4096
 on:A.on=true
 left : -1<=A.left
 pend:Pend A N V (fun _=>[])
 held:HeldJ V 2 R
section
variable {N:Nat}{A:Dev}{R:Rj}{V:Nat->Byt}
theorem SG.good(g:SG N A R V):Good N 2 A R:=⟨g.ok,g.fit,g.lim,g.on,g.left,V,g.pend,g.held⟩
theorem SG.len(g:SG N A R V):A.B.length=N:=g.pend.len
theorem SG.calm(g:SG N A R V):A=calm ((List.range N).map V) A.left:=by
 obtain⟨B,l,o⟩:=A;have h1:=g.on;dsimp only at h1 |-;subst h1;unfold Go.Proofs.YtcpgbcabmcbclaaGreatDoor.calm
 congr 1
 refine qcg fun i=>?_
 by_cases hi:i<N
 .rw[g.pend.get i hi,qbf,qav,qd4 hi];rfl
 .rw[qb0 (by have:=g.len;dsimp only at this;omega),qb0 (by simp;omega)]
theorem SG.app(g:SG N A R V)(b:Byt)(hfit:B7 R.L+blk b.length<=R.size) :
  (ND A (jrK 2 R R.L) b=0/\NE A (jrK 2 R R.L) b=jrK 2 (R.more b) (R.more b).L/\(A.left = -1->(HB A (jrK 2 R R.L) b).left = -1)/\∃V',SG N (HB A (jrK 2 R R.L) b) (R.more b) V'/\∀q,(q<2\/2+R.size<=q)->q<N->V' q=V q) \/
  (A.left ≠ -1/\ND A (jrK 2 R R.L) b=8/\NE A (jrK 2 R R.L) b={ jrK 2 R R.L with dead:=true }/\(HB A (jrK 2 R R.L) b).on=false/\∀picks,(onD (HB A (jrK 2 R R.L) b) picks).left = -1/\∃V',(∀q,(q<2\/2+R.size<=q)->q<N->V' q=V q)/\(SG N (onD (HB A (jrK 2 R R.L) b) picks) R V'\/SG N (onD (HB A (jrK 2 R R.L) b) picks) (R.more b) V')):=by
 have hjok:(jrK 2 R R.L).Ok:=g.good.jok;have hff:¬R.size - B7 R.L<blk b.length:=by have:=DX b.length;omega
 have hdd:¬(jrK 2 R R.L).dead=true:=by simp[jrK]
 have hE:ND A (jrK 2 R R.L) b=(CN A (jrK 2 R R.L) b).1:=by unfold ND;rw[if_neg hdd];exact if_neg hff
 have hD:HB A (jrK 2 R R.L) b=(CN A (jrK 2 R R.L) b).2:=by unfold HB;rw[if_neg hdd];exact if_neg hff
 have hJ:NE A (jrK 2 R R.L) b=if(CN A (jrK 2 R R.L) b).1=0 then(jrK 2 R R.L).passes b.length else{ jrK 2 R R.L with dead:=true }:=by unfold NE;rw[if_neg hdd];exact if_neg hff
 have hRR:R.more b=RN R b:=by unfold RN;rw[if_neg hff];rfl
 have hpl:∀i,2<=(jrK 2 R R.L).place i/\(jrK 2 R R.L).place i<2+R.size:=fun i=>⟨qck 2 _,hjok.place i⟩
 have hfull:∀{S'},Full N V S' (jrK 2 R R.L) b->∀q,(q<2\/2+R.size<=q)->q<N->S' q=V q:=fun h6 q hq hN=>h6.rest q hN fun i _ he=>by
  have:=hpl i;omega
 rw[hE,hD,hJ]
 rcases RO (b:=b) g.pend g.on g.left hjok g.fit (by show blk b.length<=R.size;omega)with⟨h1,h2,h3,h4,S',h5,h6⟩|⟨h1,h2,h3,S1,P,h5,h6⟩
 .rw[if_pos h1];exact .inl ⟨h1,My 2 R R.L b,h4,S',⟨by rw[hRR];exact Vc g.ok b,g.fit,g.lim,h2,h3,h5,g.held.full g.ok g.fit hfit h6⟩,hfull h6⟩
 .rw[if_neg (by rw[h2];decide)];refine .inr ⟨h1,h2,rfl,h3,fun picks=>?_⟩;obtain⟨k1,k2,S',k3,k4⟩:=h5.on h3 picks
  rcases h6 S' k4 with h7|h7
  .refine⟨k2,S',fun q hq hN=>?_,.inl ⟨g.ok,g.fit,g.lim,k1,by omega,k3,g.held.mid g.ok g.fit hfit h7⟩⟩
   rcases h7 q hN with h8|⟨i,_,h8,_⟩
   .exact h8
   .have:=hpl i;omega
  .exact⟨k2,S',hfull h7,.inr ⟨by rw[hRR];exact Vc g.ok b,g.fit,g.lim,k1,by omega,k3,g.held.full g.ok g.fit hfit h7⟩⟩
theorem Pend.congr{P:Nat->List Byt}{S S':Nat->Byt}(h:Pend A N S P)(he:∀q,q<N->S' q=S q):Pend A N S' P:=⟨h.len,fun q hq=>by rw[h.get q hq,he q hq]⟩
theorem SG.put{A':Dev}(g:SG N A R V){V':Nat->Byt}(ho:A'.on=true)(hl : -1<=A'.left)(hp:Pend A' N V' (fun _=>[]))(he:∀q,2<=q->q<2+R.size->V' q=V q):SG N A' R V' :=
 ⟨g.ok,g.fit,g.lim,ho,hl,hp,g.held.congr g.ok fun q h1 h2=>he q h1 h2⟩
theorem SG.save(g:SG N A R V)(gen:Nat)(body:Byt)(h1:1<=gen)(hg:gen<=4611686018427387904)(hb:body.length<=480) :
  (Gf A gen body=0/\(A.left = -1->(Eh A gen body).left = -1)/\SG N (Eh A gen body) R (fun q=>if q=gen % 2 then Ds gen body else V q)) \/
  (A.left ≠ -1/\Gf A gen body=8/\(Eh A gen body).on=false/\Few (Eh A gen body) 1/\(Eh A gen body).B.length=N/\∀picks,(onD (Eh A gen body) picks).left = -1/\(SG N (onD (Eh A gen body) picks) R V\/SG N (onD (Eh A gen body) picks) R (fun q=>if q=gen % 2 then Ds gen body else V q))):=by
 have hN:2<=N:=by have:=g.ok.s1;have:=g.fit;omega
 have hfit:=g.fit;have hleft:=g.left;have hm:gen % 2<2:=qbi _ (by decide);have hs:=Ab0 (B:=(List.range N).map V) (left:=A.left) (gen:=gen) (body:=body) (by simpa using hN) h1 hg hb g.left;rw[<-g.calm]at hs;have hpA:=g.pend
 by_cases l0:A.left=0
 .rw[if_pos (Or.inl l0),if_pos l0]at hs;have hp:Pend (Eh A gen body) N V (fun _=>[]):=by rw[hs.2];exact⟨hpA.len,hpA.get⟩
  have ho:(Eh A gen body).on=false:=by rw[hs.2]
  refine .inr ⟨by omega,hs.1,ho,hp.few.mono (by decide),hp.len,fun picks=>?_⟩;obtain⟨k1,k2,S',k3,k4⟩:=hp.on ho picks;refine⟨k2,.inl (g.put k1 (by omega) (k3.congr fun q hq=>?_) fun _ _ _=>rfl)⟩
  rcases k4 q hq with h5|h5
  .exact h5.symm
  .cases h5
 .by_cases l1:A.left=1
  .rw[if_pos (Or.inr l1),if_neg l0,if_pos l1]at hs
   have hp:Pend (Eh A gen body) N V (fun q=>if q=gen % 2 then[Ds gen body]else[]):=by
    rw[hs.2];refine⟨by simp[FM],fun q hq=>?_⟩
    have hq2:((List.range N).map V).map (fun b=>(b,([]:List Byt)))=A.B:=by
     have:=qac Dev.B g.calm;exact this.symm
    show(((((List.range N).map V).map fun b=>(b,([]:List Byt))).modify (gen % 2) fun p=>(p.1,p.2++[Ds gen body])))[q]?=_;rw[hq2,qcl,hpA.get q hq];show some (if gen % 2=q then((V q,[]++[Ds gen body]):Byt × List Byt)else(V q,[]))=_
    by_cases he:gen % 2=q
    .rw[if_pos he,if_pos he.symm];rfl
    .rw[if_neg he,if_neg (fun h=>he h.symm)]
   have ho:(Eh A gen body).on=false:=by rw[hs.2];rfl
   refine .inr ⟨by omega,hs.1,ho,fun p hp2=>?_,hp.len,fun picks=>?_⟩
   .obtain⟨i,hi⟩:=qce.1 hp2;have hlt:=(qaq.1 hi).1;rw[hp.get i (by rw[<-hp.len];exact hlt)]at hi;rw[<-qby hi];dsimp only
    split <;> simp
   .obtain⟨k1,k2,S',k3,k4⟩:=hp.on ho picks;refine⟨k2,?_⟩
    rcases k4 (gen % 2) (by omega)with h5|h5
    .refine .inl (g.put k1 (by omega) (k3.congr fun q hq=>?_) fun _ _ _=>rfl)
     by_cases he:q=gen % 2
     .rw[he];exact h5.symm
     .rcases k4 q hq with h6|h6
      .exact h6.symm
      .rw[if_neg he]at h6;cases h6
    .refine .inr (g.put k1 (by omega) (k3.congr fun q hq=>?_) fun q h6 h7=>if_neg (by omega));rw[if_pos rfl,qaa]at h5
     by_cases he:q=gen % 2
     .rw[if_pos he,he,h5]
     .rw[if_neg he]
      rcases k4 q hq with h6|h6
      .exact h6.symm
      .rw[if_neg he]at h6;cases h6
  .rw[if_neg (by omega),if_neg l0,if_neg l1]at hs;have hd:=hs.2;refine .inl ⟨hs.1,fun hl=>by rw[hd];exact if_pos hl,g.put (by rw[hd];rfl) (by rw[hd];show -1<=(if A.left = -1 then -1 else A.left - 2);split <;> omega) ?_ fun q h6 h7=>if_neg (by omega)⟩;rw[hd];refine⟨by simp[Go.Proofs.YtcpgbcabmcbclaaGreatDoor.calm],fun q hq=>?_⟩;show((((List.range N).map V).set (gen % 2) (Ds gen body)).map fun b=>(b,[]))[q]?=_;rw[qav,qdg]
   by_cases h:q=gen % 2
   .subst h;rw[if_pos rfl,if_pos (by simpa using hq),if_pos rfl];rfl
   .rw[if_neg (fun h5=>h h5.symm),qav,qd4 hq,if_neg h];rfl
theorem SG.save0(g:SG N A R V)(hl:A.left = -1)(gen:Nat)(body:Byt)(h1:1<=gen)(hg:gen<=4611686018427387904)(hb:body.length<=480) :
  Gf A gen body=0/\(Eh A gen body).left = -1/\SG N (Eh A gen body) R (fun q=>if q=gen % 2 then Ds gen body else V q) :=
 let h:=(g.save gen body h1 hg hb).resolve_right fun h=>h.1 hl
 ⟨h.1,h.2.1 hl,h.2.2⟩
theorem SG.off(g:SG N A R V)(picks:List Int):SG N (onD (LC A) picks) R V:=by
 have hp:Pend (LC A) N V (fun _=>[]):=⟨g.pend.len,g.pend.get⟩;obtain⟨h1,h2,S',h3,h4⟩:=hp.on rfl picks;refine⟨g.ok,g.fit,g.lim,h1,by omega,⟨h3.len,fun q hq=>?_⟩,g.held⟩;rw[h3.get q hq]
 rcases h4 q hq with h5|h5
 .rw[h5]
 .cases h5
theorem SG.new{n:Nat}{R:Rj}(hR:R.Ok)(hL:R.L=[])(hf:2+R.size<=n)(hn:n<=4096):SG n (EB n) R (fun _=>zeros) :=
 ⟨hR,hf,hn,rfl,by show(-1:Int) <= -1;decide,Pend.new n,HeldJ.zeros hL⟩
theorem SG.load(g:SG N A R V){g0 g1:Nat}{l0 l1:Byt}(h0:Cn 0 (V 0)=g0)(h1:Cn 1 (V 1)=g1)(hl0:g1<g0->Dr 0 (V 0)=l0)(hl1:g0<=g1->0<g1->Dr 1 (V 1)=l1) :
  El A=(if g0=0/\g1=0 then 4 else 0)/\EV A=(if g1<g0 then g0 else g1)/\DD A=(if g1<g0 then l0 else if g1=0 then[]else l1):=by
 have hN:2<=N:=by have:=g.ok.s1;have:=g.fit;omega
 have e0:((List.range N).map V).getD 0 zeros=V 0:=by rw[qa6,qav,qd4 (by omega)];rfl
 have e1:((List.range N).map V).getD 1 zeros=V 1:=by rw[qa6,qav,qd4 (by omega)];rfl
 have h:=Ag0 (g0:=g0) (g1:=g1) (l0:=l0) (l1:=l1) (B:=(List.range N).map V) (left:=A.left) (by simpa using hN) (by rw[e0];exact h0) (by rw[e1];exact h1) (by rw[e0];exact hl0) (by rw[e1];exact hl1);rw[<-g.calm]at h;exact h
end
abbrev Kvl:Type:=List (Byt × Byt)
def Ei(l:List (Byt × Sv)):Kvl:=l.map fun p=>(p.1,p.2.v)
def KR(kv:Kvl)(x:Wr):Kvl:=if x.d=true then FH kv x.k else IP (FH kv x.k) x.k x.v
def KS(kv:Kvl)(k:Byt):Int:=match BA kv k with|some v=>LF k v|none=>0
def goK(kv:Kvl)(room:Int):List Byt->Int->List Wr->Int
 |_,b,[]=>if room<b then 7 else 0
 |seen,b,x::L=>if LG (decide (x.k∈seen)) x=true then 1 else goK kv room (seen++[x.k]) (b - KS kv x.k+GL x) L
def DO(kv:Kvl)(n room:Int)(L:List Wr):Int:=if 1000<L.length then 6 else goK kv room [] n L
theorem KT{l:List (Byt × Sv)}{k:Byt}:BA (Ei l) k=(BA l k).map Sv.v:=EE (f:=Sv.v)
theorem Vf(l:List (Byt × Sv))(k:Byt):Iz l k=KS (Ei l) k:=by
 unfold Iz KS;rw[KT];cases BA l k <;> rfl
theorem Ag8(l:List (Byt × Sv))(room:Int):∀(L:List Wr) (seen:List Byt) (b:Int),goR l room seen b L=goK (Ei l) room seen b L
 | [],_,_=>rfl
 |x::L,seen,b=>by
  rw[goR,goK,Vf,Ag8 l room L]
theorem Aci(l:List (Byt × Sv))(n room:Int)(L:List Wr):Vb l n room L=DO (Ei l) n room L:=by
 unfold Vb DO;rw[Ag8]
theorem ZR{l:List (Byt × Sv)}{x:Wr}{s:Sv}(h:s.v=x.v):Ei (Sn l x s)=KR (Ei l) x:=by
 unfold Sn KR Ei
 split
 .exact(N8 (f:=Sv.v)).symm
 .rw[N8 (f:=Sv.v),<-h,N7 (f:=Sv.v)]
def Fy(kv:Kvl)(L:List Wr):Kvl:=L.foldl KR kv
def DQ(kv:Kvl)(n:Int):List Wr->Int
 | []=>n
 |x::L=>DQ (KR kv x) (n - KS kv x.k+GL x) L
theorem RQ{kv:Kvl}{L:List Wr}{x:Wr}:Fy kv (L++[x])=KR (Fy kv L) x:=by simp[Fy]
theorem Mz:∀{L:List Wr} {kv:Kvl} {n:Int} {x:Wr},DQ kv n (L++[x])=DQ kv n L - KS (Fy kv L) x.k+GL x
 | [],_,_,_=>rfl
 |y::L,kv,n,x=>by
  rw[qb8,DQ,DQ,Mz];rfl
theorem Ajd{kv:Kvl}(h:∀p∈kv,p.1.length<=32/\p.2.length<=128)(k:Byt):0<=KS kv k/\KS kv k<=164:=by
 unfold KS
 cases hq:BA kv k with
 |none=>simp
 |some v=>have:=h _ (Es hq);dsimp only[LF]at this |-;omega
theorem Aje{x:Wr}(h:x.Few):0<=GL x/\GL x<=164:=by
 unfold GL Wr.Few at *
 split
 .simp
 .unfold LF;omega
theorem KvAt.fewK{w:World}{M:Mut}{l:List (Byt × Sv)}{o:Obj}(K:KvAt w M l o):∀p∈Ei l,p.1.length<=32/\p.2.length<=128:=fun p hp=>by
 obtain⟨q,hq,rfl⟩:=qah.1 hp;exact K.few q hq
structure Sp where
 bd:Nat
 bs:Nat
 bj:Nat
 bp:Nat
 ba:Nat
 bt:Nat
 m1:Nat
 m2:Nat
 z1:Nat
 z2:Nat
structure Sx where
 gen:Nat
 root:Int
 n:Int
 kv:Kvl
 t:List (Byt × Int)
 P:List Nat
 T:Int
 V:Nat->Byt
def Sp.blk(p:Sp)(x:Sx)(o1 o2:Obj):List (Nat × Obj) :=
 [(p.bs,Bl CA (C3 (ptr p.bd) (ptr p.bj) (ptr p.bp) (ptr p.bt) x.gen x.root p.m1 p.m2 x.n false)),(p.m1,o1),(p.m2,o2),(p.bp,Bl TPg [.slice (some ⟨p.ba,0,none⟩) x.P.length x.P.length]),(p.ba,Bl TSt (x.P.map stv)),(p.bt,Bl TT (Pa p.bd p.bp 362))]
def Sp.own(p:Sp):List Nat:=[p.bs,p.m1,p.m2,p.bp,p.ba,p.bt]
def Ms(F:Mut)(p:Sp):Mut:=fun x=>Fj F p.bj x\/x∈p.own
def Mv(F:Mut)(p:Sp):Mut:=fun y=>Ms F p y\/(p.z1<=y/\y<p.z2)
theorem KvAt.weak{w:World}{M M':Mut}{l:List (Byt × Sv)}{o:Obj}(h:KvAt w M l o)(hM:∀x,M' x->M x):KvAt w M' l o:=⟨h.m,(fun q hq=>⟨⟨(h.ok q hq).1.1,(h.ok q hq).1.2.imp id fun h5 h6=>h5 (hM _ h6)⟩,(h.ok q hq).2⟩),h.few⟩
theorem WP{F F':Mut}{p:Sp}{w w':World}(h:Grown (Ms F p) (Ms F' p) w w'):Grown (Mv F p) (Mv F' p) w w':=by
 obtain⟨⟨S,hS,hx⟩,g⟩:=h;exact⟨⟨S,fun y hy => .inl (hS y hy),hx⟩,fun y hy=>hy.elim (fun h=>(g y h).imp .inl id) fun h => .inl (.inr h)⟩
structure Sok(w0 w:World)(p:Sp)(A:Dev)(R:Rj)(x:Sx)(F:Mut):Prop where
 jone:Jone w0 w p.bd p.bj A (jrK 2 R R.L) F
 good:SG A.B.length A R x.V
 ex:∃l o1 o2,Fo w (Fj F p.bj) (p.blk x o1 o2)/\KvAt w (Mv F p) l o1/\Ei l=x.kv/\DT str (mi x.t) o2
 ge:∀q∈p.own,w0.heap.size<=q
 nn : -(200*x.T)<=x.n/\x.n<=200*x.T
 tt:∀q∈x.t,0<=q.2/\q.2<=x.T
 tT:0<=x.T/\x.T<=4000000
 zl:p.z2<=w.heap.size
section
variable {w0 w w':World}{p:Sp}{A:Dev}{R:Rj}{x:Sx}{F:Mut}
theorem Sok.call(O:Sok w0 w p A R x F)(hx:Ext [] w w'):Sok w0 w' p A R x F:=by
 obtain⟨l,o1,o2,hF,K,hk,hM⟩:=O.ex;exact⟨O.jone.call hx,O.good,⟨l,o1,o2,(hF.call (Grown.call hx)).1,⟨K.m,fun q hq=>⟨(K.ok q hq).1.call hx,(K.ok q hq).2⟩,K.few⟩,hk,hM⟩,O.ge,O.nn,O.tt,O.tT,qas O.zl hx.size⟩
theorem Sok.lt(O:Sok w0 w p A R x F):∀q,Ms F p q->q<w.heap.size:=fun q hq=>by
 obtain⟨l,o1,o2,hF,-⟩:=O.ex
 rcases hq with hq|hq
 .exact(O.jone.at q hq).2
 .have hb:∀y∈p.blk x o1 o2,y.1<w.heap.size:=fun y hy=>Al (hF.blk y hy);simp only[Sp.own,qab,qaj,or_false]at hq;simp only[Sp.blk,qab,qaj,or_false,forall_eq_or_imp,forall_eq]at hb
  rcases hq with rfl|rfl|rfl|rfl|rfl|rfl
  .exact hb.1
  .exact hb.2.1
  .exact hb.2.2.1
  .exact hb.2.2.2.1
  .exact hb.2.2.2.2.1
  .exact hb.2.2.2.2.2
def Amg(w0 w:World)(bd bj N:Nat)(A:Dev)(R:Rj)(V:Nat->Byt)(F:Mut)(b:Byt)(v:Value)(w':World):Prop :=
 ∃(e:Int) (A':Dev) (J':Jr) (F':Mut),v=.int .i64 e/\Jone w0 w' bd bj A' J' F'/\Grown (Fj F bj) (Fj F' bj) w w' /\
  ((e=0/\J'=jrK 2 (R.more b) (R.more b).L/\(A.left = -1->A'.left = -1)/\∃V',SG N A' (R.more b) V'/\∀q,(q<2\/2+R.size<=q)->q<N->V' q=V q) \/
   (e=8/\A.left ≠ -1/\A'.on=false/\Few A' 1000000/\∀picks,(onD A' picks).left = -1/\∃V',(∀q,(q<2\/2+R.size<=q)->q<N->V' q=V q)/\(SG N (onD A' picks) R V'\/SG N (onD A' picks) (R.more b) V')))
theorem WQ{A:Dev}{J:Jr}{b:Byt}{m:Nat}(h:Few A m):Few (CN A J b).2 (m+blk b.length):=by
 have hb:=DX b.length;have h1:=NC (J:=J) (b:=b) h (blk b.length - 1);have h2:=HI h1;have h3:=GI h2 (J.place (blk b.length - 1):Int) (DC 2 (Gv J.seq b));have h4:=HI h3;have e:m+(blk b.length - 1)+1=m+blk b.length:=by omega
 rw[e]at h3 h4;unfold CN
 split
 .split
  .split
   .exact h4
   .exact h3
  .exact h2.mono (by omega)
 .exact h1.mono (by omega)
theorem Acj{A:Dev}{J:Jr}{b:Byt}{m:Nat}(h:Few A m):Few (HB A J b) (m+blk b.length):=by
 unfold HB
 split
 .exact h.mono (by omega)
 .split
  .exact h.mono (by omega)
  .exact WQ h
theorem Ack{N bd bj:Nat}{V:Nat->Byt}(O:Jone w0 w bd bj A (jrK 2 R R.L) F)(g:SG N A R V)(b:Byt)(hfit:B7 R.L+blk b.length<=R.size)(a:Option Addr)(c n:Nat)(Rb:Rd w a 1 B8 b)(hn:b.length=n)(hc:n<=c)(hFa:b=[]\/¬Fj F bj (adr a).block)(hm:n<=900000:=by omega):
  Ret prog 48 #[ptr bj,.slice a n c] w (Amg w0 w bd bj N A R V F b) :=
 (WO O g.good.jok a c n b Rb hn hm hc hFa g.good.few).mono fun v w' ⟨hv,F',O',G⟩=>by
  have hB:=Ov b.length;have hfw:Few (HB A (jrK 2 R R.L) b) 1000000:=(Acj (m:=0) g.good.few).mono (by omega);refine⟨_,_,_,F',hv,O',G,?_⟩
  rcases g.app b hfit with⟨h1,h2,h3,V',h4,h5⟩|⟨h0,h1,h2,h3,h4⟩
  .exact .inl ⟨h1,h2,h3,V',h4,h5⟩
  .exact .inr ⟨h1,h0,h3,hfw,h4⟩
theorem Jone.over{bd bj:Nat}{J:Jr}{S:List Nat}(O:Jone w0 w bd bj A J F)(hx:Ext S w w')(hS:∀y∈S,¬Fj F bj y)(hge:∀y∈S,w0.heap.size<=y):Jone w0 w' bd bj A J F :=
 ⟨⟨O.own.ext.then hx fun y hy => .inr (hge y hy),O.own.dev.keep hx fun y hy h=>hS y hy (.inl h),fun y h=>by have:=O.own.own y h;have:=hx.size;omega⟩,by rw[hx.block bj (Al O.jr) fun h=>hS _ h (.inr rfl)];exact O.jr,O.nF,O.ge⟩
theorem Wrs.call{M:Mut}{a:Option Addr}{n c:Nat}{L:List Wr}(h:Wrs w M a n c L)(hx:Ext [] w w'):Wrs w' M a n c L:=h.turn (Grown.call hx)
theorem ZS{kv:Kvl}{room:Int}:∀{L:List Wr} {seen:List Byt} {b:Int},goK kv room seen b L=0->∀y∈L,y.Few
 | [],_,_,_,y,hy=>by cases hy
 |z::L,seen,b,h,y,hy=>by
  rw[goK]at h
  split at h
  .cases h
  .rename_i hb
   rcases qab.1 hy with rfl|hy
   .unfold LG at hb;simp only[qel,qdu,qc5]at hb;exact⟨by omega,by omega⟩
   .exact ZS h y hy
theorem WR{kv:Kvl}{n room:Int}{L:List Wr}(h:DO kv n room L=0):L.length<=1000/\∀y∈L,y.Few:=by
 unfold DO at h
 split at h
 .cases h
 .exact⟨by omega,ZS h⟩
theorem Io{m:Int}:∀{L:List Wr} {kv:Kvl} {n:Int},(∀q∈kv,q.1.length<=32/\q.2.length<=128)->(∀y∈L,y.Few) -> -(200*m)<=n->n<=200*m -> -(200*(m+L.length))<=DQ kv n L/\DQ kv n L<=200*(m+L.length)
 | [],kv,n,_,_,h1,h2=>by simp[DQ];omega
 |z::L,kv,n,hkv,hL,h1,h2=>by
  rw[DQ];have ha:=Ajd hkv z.k;have hb:=Aje (hL z (qae ..));have hz:=hL z (qae ..)
  have:=Io (m:=m+1) (L:=L) (kv:=KR kv z) (n:=n - KS kv z.k+GL z) (fun q hq=>by
   unfold KR at hq
   split at hq
   .exact hkv q (Jm hq)
   .rcases N9 hq with rfl|hq
    .exact hz
    .exact hkv q (Jm hq)) (fun y hy=>hL y (qag _ hy)) (by omega) (by omega)
  rw[qaw];omega
end
def Ec(t:List (Byt × Int))(W:List Wr):List (Byt × Int):=W.foldl (fun t x=>Jl t x.k) t
theorem Pj{t:List (Byt × Int)}{W:List Wr}{x:Wr}:Ec t (W++[x])=Jl (Ec t W) x.k:=by simp[Ec]
section
variable {w0 w w':World}{p:Sp}{A:Dev}{R:Rj}{x:Sx}{F:Mut}
theorem Ajf{M:Mut}{o1 o2 z1 z2 ob:Obj}(hF:Fo w M (p.blk x o1 o2))(H:Ctx w [p.bs,p.m1,p.m2] w' [(p.bs,ob),(p.m1,z1),(p.m2,z2)]) :
  Fo w' M ([(p.bs,ob),(p.m1,z1),(p.m2,z2)]++(p.blk x o1 o2).drop 3):=by
 have hk:([(p.bs,ob),(p.m1,z1),(p.m2,z2)]++(p.blk x o1 o2).drop 3).map (·.1)=(p.blk x o1 o2).map (·.1):=rfl;have hnd:=hF.nd;refine⟨fun y hy=>?_,?_,fun y hy=>?_⟩
 .rcases qau.1 hy with hy|hy
  .exact H.blk y hy
  .have hb:=hF.blk y (qc0 hy);rw[H.ext.block y.1 (Al hb) fun h5=>?_]
   .exact hb
   .simp only[Sp.blk,qbj,qab,qaj,or_false,forall_eq_or_imp,forall_eq]at hnd;simp only[Sp.blk,List.drop_succ_cons,List.drop_zero,qab,qaj,or_false]at hy h5
    rcases hy with rfl|rfl|rfl <;> rcases h5 with h5|h5|h5 <;> simp_all
 .have h1:((p.blk x o1 o2).map (·.1)).Pairwise (·≠·):=qbn.2 hnd;rw[<-hk]at h1;exact qbn.1 h1
 .have h1:y.1∈(p.blk x o1 o2).map (·.1):=by rw[<-hk];exact qah.2 ⟨y,hy,rfl⟩
  obtain⟨z,hz,he⟩:=qah.1 h1;rw[<-he];exact hF.off z hz
theorem Ag9{F':Mut}(h:Grown (Fj F p.bj) (Fj F' p.bj) w w'):Grown (Ms F p) (Ms F' p) w w':=by
 obtain⟨⟨S,hS,hx⟩,g⟩:=h;exact⟨⟨S,fun y hy => .inl (hS y hy),hx⟩,fun y hy=>hy.elim (fun h=>(g y h).imp .inl id) fun h => .inl (.inr h)⟩
structure Cj(p:Sp)(x:Sx)(M:Mut)(wb:World)(L:List Wr)(i:Nat)(l:List (Byt × Sv))(t:List (Byt × Int))(z1 z2:Obj)(w':World):Prop where
 H:Ctx wb [p.bs,p.m1,p.m2] w' [(p.bs,Bl CA (C3 (ptr p.bd) (ptr p.bj) (ptr p.bp) (ptr p.bt) x.gen x.root p.m1 p.m2 (DQ x.kv x.n (L.take i)) false)),(p.m1,z1),(p.m2,z2)]
 K:KvAt w' M l z1
 k:Ei l=Fy x.kv (L.take i)
 m:DT str (mi t) z2
 te:t=Ec x.t (L.take i)
 t:∀q∈t,0<=q.2/\q.2<=x.T+i
structure Dd9(w0 w:World)(p:Sp)(A:Dev)(F:Mut):Prop where
 own:Own w0 w p.bd A F
 bs:∃(vj vp vt:Value) (gen:Nat) (root n:Int),w.heap[p.bs]?=some (Bl CA (C3 (ptr p.bd) vj vp vt gen root p.m1 p.m2 n true))
 nF:¬F p.bs
 ge:w0.heap.size<=p.bs
 off:A.on=false
 few:Few A 10000000
def CkOut(w0:World)(p:Sp)(F:Mut)(C:Dev->Rj->Sx->Prop)(Z:Dev->Prop)(w:World)(v:Value)(w':World):Prop :=
 ∃(e:Int) (A':Dev) (F':Mut),v=.int .i64 e/\Grown (Ms F p) (Ms F' p) w w'/\((e=0/\∃R' x',Sok w0 w' p A' R' x' F'/\C A' R' x')\/(e=8/\Dd9 w0 w' p A' F'/\Z A'))
def Aku(w0:World)(p:Sp)(A:Dev)(R:Rj)(x:Sx)(F:Mut)(L:List Wr)(C:Dev->Rj->Sx->Prop)(Z:Dev->Prop)(w:World)(v:Value)(w':World):Prop :=
 (v=.int .i64 (DO x.kv x.n (DY A.B.length) L)/\(DO x.kv x.n (DY A.B.length) L≠0\/L=[])/\Sok w0 w' p A R x F/\Ext [] w w') \/
 (DO x.kv x.n (DY A.B.length) L=0/\L≠[]/\v=.int .i64 0/\∃A1 R1 x1 A' F' V',C A1 R1 x1/\Sok w0 w' p A' (R1.more (opB L)) { x1 with n:=DQ x1.kv x1.n L,kv:=Fy x1.kv L,t:=Ec x1.t L,T:=x1.T+L.length,V:=V' } F'/\A'.B.length=A.B.length/\(A1.left = -1->A'.left = -1)/\(∀q,(q<2\/2+R1.size<=q)->q<A.B.length->V' q=x1.V q)/\Grown (Ms F p) (Ms F' p) w w') \/
 (DO x.kv x.n (DY A.B.length) L=0/\L≠[]/\v=.int .i64 8/\∃A' F',Dd9 w0 w' p A' F'/\Grown (Ms F p) (Ms F' p) w w'/\(Z A'\/∃A1 R1 x1,C A1 R1 x1/\A1.left ≠ -1/\∀picks,(onD A' picks).left = -1/\∃V',(∀q,(q<2\/2+R1.size<=q)->q<A.B.length->V' q=x1.V q)/\(SG A.B.length (onD A' picks) R1 V'\/SG A.B.length (onD A' picks) (R1.more (opB L)) V')))
theorem M6(O:Sok w0 w p A R x F)(a:Option Addr)(nn c:Nat)(L:List Wr)(X:Wrs w (Ms F p) a nn c L)(hnn:nn<=1000000000)(hT:x.T<=3000000){C:Dev->Rj->Sx->Prop}{Z:Dev->Prop}(hC:∀{A' R' x'},C A' R' x'->x'.kv=x.kv/\x'.n=x.n/\x'.T=x.T/\A'.B.length=A.B.length/\B7 R'.L+blk (opB L).length<=R'.size)(hfit:DO x.kv x.n (DY A.B.length) L=0->L≠[]->B7 R.L+blk (opB L).length<=R.size->C A R x)(hck:∀w1,Ext [] w w1->DO x.kv x.n (DY A.B.length) L=0->L≠[]->¬B7 R.L+blk (opB L).length<=R.size->Ret prog 16 #[ptr p.bs] w1 (CkOut w0 p F C Z w1)) :
  Ret prog 13 #[ptr p.bs,.slice a nn c] w (Aku w0 p A R x F L C Z w):=by
 obtain⟨wI,rfl⟩:=qD w;have hnL:=X.num;have hB:=O.good.lim;have hnn0:=O.nn;have hT0:=O.tT
 have hs:wI.heap[p.bs]?=some (Bl CA (C3 (ptr p.bd) (ptr p.bj) (ptr p.bp) (ptr p.bt) x.gen x.root p.m1 p.m2 x.n false)):=by
  obtain⟨l,o1,o2,hF,-⟩:=O.ex;exact hF.blk _ (qae ..)
 have hright:=(fun(l:List (Byt × Sv)) (o1 o2:Obj) (hF:Fo wI (Fj F p.bj) (p.blk x o1 o2)) (K:KvAt wI (Mv F p) l o1)=>let ⟨_,_,hhd⟩:=O.jone.own.dev.hd;Ab6 wI a nn c L hs hhd (hF.blk (p.m1,o1) (by simp[Sp.blk])) (K.weak fun _ h => .inl h) X hnn);obtain⟨l0,o10,o20,hF0,K0,hk0,hM0⟩:=O.ex;have hright:=hright l0 o10 o20 hF0 K0;rw[Aci,hk0]at hright;clear hF0 K0 hk0 hM0;refine A6 (fn:=Tryz.f13) func13 U [ptr p.bs,.slice a nn c] U (Ad (Ac U (qA (Ar (Ad (An U (Ah qB (Jn hs) U ?_)))))));rintro v w ⟨rfl,rfl⟩;refine Ac U (qA (Ad (Ae U (AZ U U (qA (Au _ U ?_ ?_))))))
 .intro h1;replace h1:=Bu h1;exact absurd U h1
 .intro h1;replace h1:=Bv h1;refine Aq (Aa (Ar (Ad (An U (Ai U (Ah qB hright U ?_))))));rintro v w2 ⟨rfl,hx19⟩;refine Ac U (qA (Ad (BB (α:=Unit) 133169152 (fun _=>[(26,.bool ((!decide (DO x.kv x.n (DY A.B.length) L=0) || decide (nn=0))))]) (fun _ w'=>w2=w') U ?_ ?_)))
  .refine Ae U (AZ U U (AC U (AX 22 U ?_ ?_)))
   .intro h1;replace h1:=Bu h1;refine Ak U (Ak U (Ak U (AQ U (.bool _) U (Ab ?_))));exact⟨rfl,(),rfl,⟨qac Value.bool (by simp_all;try omega),trivial⟩,rfl⟩
   .intro h2;replace h2:=Bv h2;refine Ai U (AO GX U (B1 U U (AN U (.bool _) U (Ab ?_))));exact⟨rfl,(),rfl,⟨qac Value.bool (by simp_all;try omega),trivial⟩,rfl⟩
  rintro - j26 w rfl;refine Au _ U ?_ ?_
  .intro h2;refine Ad (Ae U (Ac U (qA (Ax (Ao (AH (v:=(.int _ _)) U U U ?_))))));refine .inl ⟨rfl,?_,O.call hx19,hx19⟩;simp only[qcd,qd0,qc5,qap]at h2;exact h2.imp id fun h=>qa9 (by omega)
  .intro h2;simp only[qdu,Bool.not_eq_false',qc5,qap]at h2;obtain⟨hr0,hn0⟩:=h2;have hL0:L≠[]:=fun h=>hn0 (by rw[hnL,h];rfl);obtain⟨hL1,hLf⟩:=WR hr0;have O2:=O.call hx19;have X2:=X.call hx19;refine Aq (Aa (Ad (Ai U (Ah qB (Ai4 w2 a nn c L X2 hLf) U ?_))));rintro v w3 ⟨a29,c29,rfl,R29,h29,hc29,hx29⟩;have O3:=O2.call hx29;have X3:=X2.call hx29;have hs3:=(hx19.trans hx29).to hs (by simp);have hOL:=N6 hLf;have H:=Ctx.start w3 [];have X29:Rdx w3 (Ms F p) a29 (opB L):=⟨R29,h29.imp id fun h hj=>by have:=O2.lt _ hj;omega⟩;refine Aj U (qA (Ar (BR [([0,1,3,4,5,6],2),([],7),([],8)] (fun z=>z.heap[p.bs]?=some (Bl CA (C3 (ptr p.bd) (ptr p.bj) (ptr p.bp) (ptr p.bt) x.gen x.root p.m1 p.m2 x.n false))) [] mixed ((H.drew.ext.to hs3 (by simp))) ?_)));refine AB U U ?_
   refine Cg U (Qh AW U (CE U (Bn U (AE Lh U (BJ LM U (fun _ hx=>(by rw[Ap hx];rfl)) ?_)))));refine Bm ?_;replace H:=H.drew;refine Ah qB (FN _ _) U ?_;rintro v w ⟨rfl,rfl⟩;rw[Il];refine Ab (Bb ((H.ext.to hs3 (by simp))) ?_);refine AB U U (Bm (Ah qB (Acg (O3.jone.call H.ext) O3.good.good) U ?_));rintro v w ⟨rfl,hx37⟩;replace H:=H.call hx37;refine Ab (Bb ((H.ext.to hs3 (by simp))) ?_);refine AB U U (Bm (Ci U U (Ab (Bb ((H.ext.to hs3 (by simp))) ?_))));refine B3 ?_;have hx3:=(hx19.trans hx29).trans H.ext;have htk:=O3.good.ok.t;refine FF 17042430230800 (α:=Dev × Rj × Sx × Mut) (fun _=>[]) (fun s w'=>Sok w0 w' p s.1 s.2.1 s.2.2.1 s.2.2.2/\C s.1 s.2.1 s.2.2.1/\Grown (Ms F p) (Ms s.2.2.2 p) w3 w') U ?_ ?_
   .skip
    refine Au _ U ?_ ?_
    .intro h3;replace h3:=AU h3;refine Ad (An U (Ah qB (hck _ hx3 hr0 hL0 (by omega)) U ?_));rintro v w4 ⟨e4,A1,F1,rfl,G4,h40⟩;refine Ac U (qA (Ad (Ae U (AZ U U (qA (Au _ U ?_ ?_))))))
     .intro h4;replace h4:=Bu h4;refine Ad (Ae U (Ac U (qA (Ax (Ao (AH (v:=(.int _ _)) U U U ?_))))));obtain⟨rfl,D4,hZ4⟩:=h40.resolve_left (fun h=>h4 h.1);exact .inr (.inr ⟨hr0,hL0,rfl,A1,F1,D4,Grown.trans (Grown.call hx3) G4,.inl hZ4⟩)
     .intro h4;replace h4:=Bv h4;obtain⟨-,R1,x1,O4,hC4⟩:=h40.resolve_right (fun h=>by have:=h.1;omega);refine Aq (Aa ?_);exact⟨(A1,R1,x1,F1),rfl,trivial,O4,hC4,Grown.trans (Grown.call H.ext) G4⟩
    .intro h3;replace h3:=AV h3;refine Aq (Aa ?_);exact⟨(A,R,x,F),rfl,trivial,O3.call H.ext,hfit hr0 hL0 (by omega),Grown.call H.ext⟩
   .rintro⟨A1,R1,x1,F1⟩ j38 w4 ⟨O4,hC4,G4⟩;dsimp only at O4 hC4 G4;obtain⟨hkv,hxn,hxT,hAl,hft⟩:=hC hC4;have X4:=X3.turn G4;have X30:=Rdx.turn X29 G4;have hnn4:=O4.nn;have hT4:=O4.tT;have hlt4:=O4.lt;clear H;obtain⟨wJ,rfl,H⟩:=qE w4;obtain⟨l4,o14,o24,hF4,K4,hk4,hM4⟩:=O4.ex;have hs4:=hF4.blk _ (qae ..);dsimp only at hs4;refine Ar (Ad (An U (An U (Ay U (Af Lh U (Bf LM U ((by rw[Ap (H.ext.to hs4 (by simp))];rfl)) ?_))))));refine Ai U (Ah qB (Ack (N:=A.B.length) (V:=x1.V) (O4.jone.call H.ext) (by have h9:=O4.good;rw[hAl]at h9;exact h9) (opB L) hft a29 c29 _ (X30.1.ext0 H.ext) U hc29 (X30.2.imp id fun h hj=>h (.inl hj))) U ?_);rintro v w5 ⟨e5,A',J',F',rfl,J5,gr5,h50⟩;have hF5:=((hF4.call (Grown.call H.ext)).1.call gr5).1;have hs5:=hF5.blk _ (qae ..);have gM:=Ag9 (p:=p) gr5
    have gI:Grown (Ms F p) (Ms F' p) wI w5:=Grown.trans (Grown.trans (Grown.call (hx19.trans hx29)) G4) (Grown.trans (Grown.call H.ext) gM);refine Ah qB (WH (Ctx.startL (L:=[(p.bs,Bl CA (C3 (ptr p.bd) (ptr p.bj) (ptr p.bp) (ptr p.bt) x1.gen x1.root p.m1 p.m2 x1.n false))]) (fun y hy=>by rw[qaa.1 hy];exact hs5) (by simp)) _) U ?_;rintro v w6 ⟨rfl,H6⟩;refine Ac U (qA ?_);have hS3:∀y∈[p.bs,p.m1,p.m2],Ms F' p y:=fun y hy => .inr (by simp only[Sp.own,qab,qaj,or_false]at hy |-;rcases hy with h|h|h <;> simp[h])
    have hoff5:∀y∈[p.bs,p.m1,p.m2],¬Fj F' p.bj y:=fun y hy h=>by
     have h1:∃ob,(y,ob)∈p.blk x1 o14 o24:=by
      simp only[qab,qaj,or_false]at hy
      rcases hy with rfl|rfl|rfl
      .exact⟨_,qae ..⟩
      .exact⟨o14,by simp[Sp.blk]⟩
      .exact⟨o24,by simp[Sp.blk]⟩
     obtain⟨ob,hob⟩:=h1;exact hF5.off _ hob h
    have hge5:∀y∈[p.bs,p.m1,p.m2],w0.heap.size<=y:=fun y hy=>O.ge y (by simp only[Sp.own,qab,qaj,or_false]at hy |-;rcases hy with h|h|h <;> simp[h]);refine Ad (Ae U (AZ U U (qA (Au _ U ?_ ?_))))
    .intro h4;replace h4:=Bu h4;obtain⟨rfl,hl5,off5,few5,pk5⟩:=h50.resolve_left (fun h=>h4 h.1);refine Ad (Ae U (Ac U (qA (Ax (Ao (AH (v:=(.int _ _)) U U U ?_))))));have J6:=J5.over H6.ext (fun y hy=>hoff5 y (by rw[qaa.1 hy];simp)) (fun y hy=>hge5 y (by rw[qaa.1 hy];simp));exact .inr (.inr ⟨hr0,hL0,rfl,A',F',⟨J6.own,⟨_,_,_,_,_,_,H6.get at0⟩,fun h=>hoff5 p.bs (by simp) (.inl h),hge5 p.bs (by simp),off5,few5.mono (by decide)⟩,Grown.trans gI ⟨Turn.of H6.ext fun y hy=>hS3 y (by rw[qaa.1 hy];simp),fun _ h => .inl h⟩,.inr ⟨A1,R1,x1,hC4,hl5,pk5⟩⟩)
    .intro h4;replace h4:=Bv h4;obtain⟨rfl,rfl,hl5,V',G5,hv5⟩:=h50.resolve_right (fun h=>by have:=h.1;omega);have K5:KvAt w5 (Mv F' p) l4 o14:=⟨K4.m,(fun q hq=>⟨((K4.ok q hq).1.call H.ext).turn (WP gM),(K4.ok q hq).2⟩),K4.few⟩;have X5:Wrs w5 (Ms F' p) a nn c L:=(X4.call H.ext).turn gM;clear H;have C5:Ctx w5 [p.bs,p.m1,p.m2] w5 [(p.bs,Bl CA (C3 (ptr p.bd) (ptr p.bj) (ptr p.bp) (ptr p.bt) x1.gen x1.root p.m1 p.m2 x1.n false)),(p.m1,o14),(p.m2,o24)]:=Ctx.startL (L:=(p.blk x1 o14 o24).take 3) (fun y hy=>hF5.blk y (qbs hy)) (hF5.nd.sublist (List.take_sublist ..));have C6:Ctx w5 [p.bs,p.m1,p.m2] w6 [(p.bs,Bl CA (C3 (ptr p.bd) (ptr p.bj) (ptr p.bp) (ptr p.bt) x1.gen x1.root p.m1 p.m2 x1.n false)),(p.m1,o14),(p.m2,o24)]:=C5.turn at0 (Bl CA (C3 (ptr p.bd) (ptr p.bj) (ptr p.bp) (ptr p.bt) x1.gen x1.root p.m1 p.m2 x1.n false)) H6.ext (H6.get at0);obtain⟨ps,R5,hoff,hl,hp⟩:=X5.ex
     have hpn:ps.length=nn:=by rw[hnL,<-hl,qal]
     have hlt5:∀y,Ms F' p y->y<w5.heap.size:=fun y hy=>by
      rcases hy with hy|hy
      .exact(J5.at y hy).2
      .have h6:=hlt4 y (.inr hy);have h7:=gM.1.size;omega
     have hlt5v:∀y,Mv F' p y->y<w5.heap.size:=fun y hy=>hy.elim (hlt5 y) fun h=>by
      have h6:=O4.zl;have h7:=gM.1.size;have h8:=H6.ext.size;omega
     refine Aq (Aa (Ar (Ad (Ai U (AO GX U (Ae U (qA (AD (BF 36749372959343249408 (α:=Nat × List (Byt × Sv) × List (Byt × Int) × Obj × Obj) (fun s=>[(57,.int .i64 (s.1:Int))]) (fun s w'=>s.1<=nn/\Cj p x1 (Mv F' p) w5 L s.1 s.2.1 s.2.2.1 s.2.2.2.1 s.2.2.2.2 w') (fun s=>nn - s.1) (0,l4,x1.t,o14,o24) U ?_ ?_ ?_)))))))))
     .exact⟨rfl,trivial⟩
     .exact⟨qak _,C6,⟨K5.m,fun q hq=>⟨⟨Rdx.read (K5.ok q hq).1 H6.ext (fun y hy => .inl (hS3 y (by rw[qaa.1 hy];simp))),(K5.ok q hq).1.2⟩,(K5.ok q hq).2⟩,K5.few⟩,hk4,hM4,rfl,fun q hq=>by have:=O4.tt q hq;simpa using this⟩
     .rintro⟨i,li,ti,z1,z2⟩ j w1 ⟨hi,C⟩;dsimp only at hi C;dsimp only;have H:=Ctx.start w1 [];refine Ad (Bt U U (qA (Ar (Au _ U ?_ ?_))))
      .intro h5;replace h5:=AU h5;obtain⟨m,hm⟩:=AR (l:=ps) (i:=i);have hok:=hp m (qad hm);have hxL:L[i]?=some m.x:=by rw[<-hl,qav,hm];rfl
       have hfew:=hLf _ (qad hxL);have hb:¬Ms F' p (adr a).block:=hoff.resolve_left (fun h=>by rw[h]at hm;cases hm);have R1':=R5.ext C.H.ext (fun h=>hb (hS3 _ h));have hok1:m.Ok w1 (Ms F' p):=⟨⟨Rdx.read hok.k C.H.ext hS3,hok.k.2⟩,⟨Rdx.read hok.v C.H.ext hS3,hok.v.2⟩,hok.kc,hok.vc⟩;have hn1:=Io (m:=x1.T) (kv:=x1.kv) (n:=x1.n) (L:=L.take i) (by rw[<-hk4];exact K4.fewK) (fun y hy=>hLf y (qbs hy)) (by omega) (by omega);have hlen1:(L.take i).length<=1000:=by have:=List.length_take_le' i L;omega
       refine Aq (Aa (Ar (AD (Ad (Bj R1' GX Fx U U ?_)))));refine EL _ Qt Fx U U (R1'.row hm U) (Be Ha H ?_);rintro b11 w - H;refine Bi Fx U U U (by exact HK m) H at0 U ?_;rintro w H;refine qA (Av (An U (BG Qt Fx U H at0 U (Ah qB (ZK (T:=x1.T+i) (Ctx.startL (C.H.call H.ext).blk (C.H.call H.ext).nd) ⟨C.K.m,fun q hq=>⟨(C.K.ok q hq).1.call H.ext,(C.K.ok q hq).2⟩,C.K.few⟩ C.m (fun y hy => .inl (hS3 y hy)) (fun y hy=>by have:=hlt5v y hy;have:=C.H.ext.size;have:=H.ext.size;omega) hS3 m (hok1.call H.ext) hfew C.t) U ?_))));rintro v w7 ⟨rfl,s,z1',z2',H7,K7,hsv,hM7⟩;refine Ab (AF (Aa (Av (AA U U ?_))));refine Ae U (qA ?_);refine⟨(i+1,Sn li m.x s,Jl ti m.x.k,z1',z2'),rfl,⟨rfl,trivial⟩,⟨by dsimp only;omega,?_,K7,?_,hM7,by dsimp only;rw[C.te,Bx hxL,Pj],?_⟩,by dsimp only;omega⟩
       .have hn7:DQ x1.kv x1.n (L.take (i+1))=DQ x1.kv x1.n (L.take i) - Iz li m.x.k+GL m.x:=by rw[Bx hxL,Mz,Vf,C.k]
        dsimp only;rw[hn7];exact⟨(C.H.call H.ext).ext.trans H7.ext,H7.blk,H7.nd,fun y hy => .inl (by simp only[qab,qaj,or_false]at hy |-;rcases hy with rfl|rfl|rfl <;> simp)⟩
       .dsimp only;rw[ZR hsv,C.k,Bx hxL,RQ]
       .intro q hq;have:=(RI (k:=m.x.k) C.t (by omega)).1 q hq;dsimp only;omega
      .intro h5;replace h5:=AV h5;obtain rfl:i=nn:=by omega
       have hLt:L.take i=L:=qa5 (by omega);refine B9 (A8 (A8 (Bd (Aa (Ad (Ac U (qA (Ax (AH (v:=(.int _ _)) U U U ?_)))))))));have CH:=C.H;have Ck:=C.k;have Ct:=C.t;have Cte:=C.te;have Cm:=C.m;rw[hLt]at CH Ck Cte;rw[Cte]at Ct Cm;have hn1:=Io (m:=x1.T) (kv:=x1.kv) (n:=x1.n) (L:=L) (by rw[<-hk4];exact K4.fewK) hLf (by omega) (by omega);have hG5l:=G5.len;refine .inr (.inl ⟨hr0,hL0,rfl,A1,R1,x1,A',F',V',hC4,⟨J5.over CH.ext hoff5 hge5,by rw[hG5l];exact G5,⟨li,z1,z2,Ajf (x:=x1) hF5 CH,C.K,Ck,Cm⟩,O4.ge,?_,fun q hq=>?_,?_,?_⟩,hG5l,hl5,hv5,Grown.trans gI ⟨Turn.of CH.ext fun y hy=>hS3 y hy,fun _ h => .inl h⟩⟩)
       .dsimp only;omega
       .dsimp only;have:=Ct q hq;omega
       .dsimp only;omega
       .have h6:=O4.zl;have h7:=gM.1.size;have h8:=H6.ext.size;have h9:=CH.ext.size;omega
end
abbrev Aha:TypeId:=76
section
variable {w0 w:World}{b16 b14 b5 b1 bd bs bj gen m1 m2:Nat}{F:Mut}{A:Dev}{N:Nat}{R:Rj}{V:Nat->Byt}{fv:List Value}{vj vp vt:Value}{root n r0:Int}{pq qq:Nat}{Y:List (Nat × Obj)}
abbrev nwB(b16 b14 b5 b1 bs bd gen m1 m2 pq qq:Nat)(root n r0:Int)(fv:List Value)(vj vp vt:Value):List (Nat × Obj) :=
 [(b16,Bl 46 fv),(b14,Bl 31 [ptr bs]),(b5,Bl Aha (tpC r0 pq qq)),(b1,Bl 27 [ptr bd]),(bs,Bl CA (C3 (ptr bd) vj vp vt gen root m1 m2 n false))]
theorem Fo.at{M:Mut}(h:Fo w M Y){k b:Nat}{o:Obj}(hk:Y[k]?=some (b,o)):w.heap[b]?=some o:=h.blk (b,o) (qad hk)
theorem Ajg(O:Own w0 w bd A F)(g:SG N A R V)(hl:A.left = -1)(Y:Fo w F (nwB b16 b14 b5 b1 bs bd gen m1 m2 pq qq root n r0 fv vj vp vt++Y))(hg1:1<=gen)(hg:gen<=4611686018427387904)(hr: -1<=r0/\r0<=4294967294:=by decide)(hp:pq<4294967296:=by omega)(hq:qq<18446744073709551616:=by omega):
  Ret prog 38 #[ptr b1,ptr b14,ptr b5] w fun v w'=>v=.int .i64 0/\∃F',Own w0 w' bd (Eh A gen (tpB r0 pq qq)) F'/\Grown F F' w w':=by
 obtain⟨wI,rfl,H⟩:=qE w;have h1:=Fo.at Y (k:=3) rfl;have h14:=Fo.at Y (k:=1) rfl;have h5:=Fo.at Y (k:=2) rfl;have hs:=Fo.at Y (k:=4) rfl;have hsv:=(g.save0 hl gen (tpB r0 pq qq) hg1 hg (by rw[DN];decide)).1;refine A6 (fn:=f38) func38 U [ptr b1,ptr b14,ptr b5] U ?_;refine Ad (Ac U (qA (BR [([0,1,2,3,4,5],6),([],7),([],8)] (fun z=>(z.heap[b1]?=some (Bl 27 [ptr bd])/\z.heap[b14]?=some (Bl 31 [ptr bs])/\z.heap[bs]?=some (Bl CA (C3 (ptr bd) vj vp vt gen root m1 m2 n false))/\z.heap[b5]?=some (Bl Aha (tpC r0 pq qq)))) [] mixed (⟨H.drew.ext.to h1 (by simp),H.drew.ext.to h14 (by simp),H.drew.ext.to hs (by simp),H.drew.ext.to h5 (by simp)⟩) ?_)));refine AB U U (BJ CY U (fun _ hx=>(by rw[Ap hx.1];rfl)) ?_);refine BJ ET U (fun _ hx=>(by rw[Ap hx.2.1];rfl)) ?_
 refine Bn U (AE P9 U (BJ FU U (fun _ hx=>(by rw[Ap hx.2.2.1];rfl)) ?_));refine ON _ Zh Nb U U (fun _ hx=>(fun j v hv=>by rw[Ap hx.2.2.2,qa3];exact hv)) ?_;refine Bm ?_;replace H:=H.drew;refine Ah qB (ZI r0 pq qq _ hr hp hq) U ?_;rintro v w F10;obtain⟨a10,c10,rfl,R10,hc10,h10⟩:=Fresh.newB F10;replace H:=H.call F10.ext;refine Ab (Bb ((by exact⟨H.ext.to h1 (by simp),H.ext.to h14 (by simp),H.ext.to hs (by simp),H.ext.to h5 (by simp)⟩)) ?_);refine AB U U (Bm (Ah qB (W7 (O.call H.ext) gen (by omega) a10 c10 _ (tpB r0 pq qq) R10 U (by rw[DN];decide) g.good.few (by decide)) U ?_));rintro v w ⟨rfl,F',O',G'⟩;rw[hsv];have Y2:=(Y.call (Grown.trans (Grown.call H.ext) G')).1;refine Ab (Bb ((by exact⟨Fo.at Y2 (k:=3) rfl,Fo.at Y2 (k:=1) rfl,Fo.at Y2 (k:=4) rfl,Fo.at Y2 (k:=2) rfl⟩)) ?_);refine AB U U ?_
 refine Bm (Ac U (Ab (Bb ((by exact⟨Fo.at Y2 (k:=3) rfl,Fo.at Y2 (k:=1) rfl,Fo.at Y2 (k:=4) rfl,Fo.at Y2 (k:=2) rfl⟩)) ?_)));refine B3 (Ax (AH (v:=(.int _ _)) U U U ?_));exact⟨rfl,F',O',Grown.trans (Grown.call H.ext) G'⟩
theorem Ajh(O:Own w0 w bd A F)(hge:w0.heap.size<=bs)(g:SG N A R V)(hR:R.size=360/\R.first=pq/\R.seq=qq/\1<=qq/\qq<=4611686018427387904)(Y:Fo w F (nwB b16 b14 b5 b1 bs bd gen m1 m2 pq qq root n r0 fv vj vp vt++Y)) :
  Ret prog 41 #[ptr b1,ptr b5,ptr b14] w fun v w'=>v=.int .i64 0/\∃bj,w.heap.size<=bj/\Jone w0 w' bd bj A (jrK 2 R R.L) F/\Ext [bs] w w'/\w'.heap[bs]?=some (Bl CA (C3 (ptr bd) (ptr bj) vp vt gen root m1 m2 n false)):=by
 obtain⟨hz,rfl,rfl,hq1,hq2⟩:=hR;obtain⟨wI,rfl⟩:=qD w;have h1:=Fo.at Y (k:=3) rfl;have h14:=Fo.at Y (k:=1) rfl;have h5:=Fo.at Y (k:=2) rfl;have hs:=Fo.at Y (k:=4) rfl;have H:=Ctx.start1 hs;have hnd:=Y.nd;simp only[qb8,qba,qbj,qab,forall_eq_or_imp]at hnd;have hb1:b1∉[bs]:=by simpa using hnd.2.2.2.1.1
 have hb14:b14∉[bs]:=by simpa using hnd.2.1.2.2.1
 have hb5:b5∉[bs]:=by simpa using hnd.2.2.1.2.1
 have hopen:=fun(w1:World) (O1:Own w0 w1 bd A F)=>Pi O1 g.good hq1 hq2;rw[hz]at hopen;refine A6 (fn:=f41) func41 U [ptr b1,ptr b5,ptr b14] U ?_;refine Ad (Ac U (qA (BR [([0,1,2,3,4,5],6),([7,8,9,10,11,12],13),([],14)] (fun z=>(z.heap[b1]?=some (Bl 27 [ptr bd])/\z.heap[b14]?=some (Bl 31 [ptr bs])/\z.heap[b5]?=some (Bl Aha (tpC r0 R.first R.seq)))) [13,14] mixed (⟨H.drew.ext.to h1 hb1,H.drew.ext.to h14 hb14,H.drew.ext.to h5 hb5⟩) ?_)));refine AB U U (BJ ET U (fun _ hx=>(by rw[Ap hx.2.1];rfl)) ?_);refine BJ CY U (fun _ hx=>(by rw[Ap hx.1];rfl)) ?_;refine AE MX U (BJ DU U (fun _ hx=>(by rw[Ap hx.2.2];rfl)) ?_);refine AE JA U (BJ FU U (fun _ hx=>(by rw[Ap hx.2.2];rfl)) ?_);refine Bm ?_;replace H:=H.drew;refine Ah qB (hopen _ (O.call (Ext.drew [] wI))) U ?_;clear H;rintro v w6 ⟨bj,aj,nj,cj,rfl,hx6,hbj,J6,-⟩
 have E6:=(Ext.drew [] wI).trans hx6;have k1:=E6.to h1 (by simp);have k14:=E6.to h14 (by simp);have k5:=E6.to h5 (by simp);have H:=Ctx.start1 (E6.to hs (by simp));refine Ab (Bb ((by exact⟨H.ext.to k1 hb1,H.ext.to k14 hb14,H.ext.to k5 hb5⟩)) ?_);refine AB U U (H1 U (Cu U U (Cu U U (Cu U U (Bn U (AE Lh U (Bm (Bc (.pointer _) Akl U U U H at0 (by(simp;done)) ?_))))))));rintro w H;refine Ab (CR U (AB U U ?_));refine Bm (Ac U (Ab (CR U (B3 (Ad (Ae U (Ac U (qA (Ax (AH (v:=(.int _ _)) U U U ?_))))))))));have hno:¬Fj F bj bs:=fun h=>h.elim (Y.off (bs,Bl CA (C3 (ptr bd) vj vp vt gen root m1 m2 n false)) (by simp)) fun h=>by have h8:=Al hs;have h9:wI.heap.size<=bj:=hbj;omega
 exact⟨rfl,bj,hbj,J6.over H.ext (fun y hy=>by rw[qaa.1 hy];exact hno) (fun y hy=>by rw[qaa.1 hy];exact hge),(E6.mono (by simp)).trans H.ext,H.get at0⟩
end
end Go.Proofs.YtcpgbcabmcbclaaGreatDoor
