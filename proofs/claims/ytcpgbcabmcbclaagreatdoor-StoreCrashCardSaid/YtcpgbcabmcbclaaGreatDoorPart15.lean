/- Part 15 of the proof. The last text: StoreCrash: for every input the law answers true, and turns nothing. The tables that its row lists are premises, and tied to the text by its card. -/
import Derived.Test.YtcpgbcabmcbclaaGreatDoorPart14
import Derived.Test.YtcpgbcabmcbclaaGreatDoorCards
import Derived.Test.YtcpgbcabmcbclaaGreatDoorTie
import Derived.WalkKit
import Derived.ProofKit
import Derived.OpenShut
import Derived.Deep.DeepHandedRow
set_option maxHeartbeats 8000000
namespace Go.Proofs.YtcpgbcabmcbclaaGreatDoor
open Go.GV Go.Proofs.Tryz
theorem Wrs.weak{w:World}{M M':Mut}{a:Option Addr}{n c:Nat}{W:List Wr}(h:Wrs w M a n c W)(hM:∀y,M' y->M y):Wrs w M' a n c W:=by
 obtain⟨ps,R,hs,hl,hm⟩:=h.ex;exact⟨⟨ps,R,hs.imp id fun h h2=>h (hM _ h2),hl,fun m hx=>⟨⟨(hm m hx).k.1,(hm m hx).k.2.imp id fun h h2=>h (hM _ h2)⟩,⟨(hm m hx).v.1,(hm m hx).v.2.imp id fun h h2=>h (hM _ h2)⟩,(hm m hx).kc,(hm m hx).vc⟩⟩,h.num,h.le⟩
section
variable {w0 w w' w1 w2 w3 w4:World}{p:Sp}{N b b' br:Nat}{A A':Dev}{L L':List Pr}{F F':Mut}{a':Option Addr}{c':Nat}{f':List Value}{ms:List Wm}{W:List Wr}
structure Own9(w1 w2:World)(a':Option Addr)(c':Nat)(ms:List Wm)(W:List Wr):Prop where
 rd:Rd w2 a' 3 CO ms
 hd:ms=[]\/(w1.heap.size<=(adr a').block/\(adr a').block<w2.heap.size)
 eq:ms.map (·.x)=W
 le:W.length<=c'
 nh:(adr a').block∉VA ms
 in':∀y∈VA ms,w1.heap.size<=y/\y<w2.heap.size
 ok:∀m∈ms,m.Ok w2 (fun y=>y<w1.heap.size\/w2.heap.size<=y)
 ub:∀m∈ms,UB w2 m.ka m.x.k.length/\UB w2 m.va m.x.v.length
theorem Ang(H:Ctx w1 [] w2 (ent a' 56 f'))(Os:OS a' W.length c' 3 f' (ms.flatMap CO))(hms:ms.map (·.x)=W)(hok:∀m∈ms,Cpi w1 w2 (ent a' 56 f') m):Own9 w1 w2 a' c' ms W:=by
 have hb:∀{a:Option Addr} {l:Byt},Rdx w2 (Mk w1 (ent a' 56 f')) a l->l≠[]->w1.heap.size<=(adr a).block/\(adr a).block<w2.heap.size/\¬(adr a).block∈(ent a' 56 f').map (·.1):=fun{a l} ⟨R,hn⟩ hne=>by
  have h1:=hn.resolve_left hne;have h2:=(Rd.lt8 R).resolve_left hne;exact⟨Nat.not_lt.1 fun h=>h1 (.inl h),h2,fun h=>h1 (.inr h)⟩
 have hbl:∀y∈VA ms,∃(a:Option Addr) (l:Byt),Rdx w2 (Mk w1 (ent a' 56 f')) a l/\l≠[]/\y=(adr a).block:=fun y hy=>by
  obtain⟨m,hm,hy⟩:=List.mem_flatMap.1 hy;unfold blkW at hy
  rcases qau.1 hy with h|h
  .by_cases hk:m.x.k=[]
   .rw[if_pos hk]at h;cases h
   .rw[if_neg hk]at h;exact⟨_,_,(hok m hm).ok.k,hk,qaa.1 h⟩
  .by_cases hk:m.x.v=[]
   .rw[if_pos hk]at h;cases h
   .rw[if_neg hk]at h;exact⟨_,_,(hok m hm).ok.v,hk,qaa.1 h⟩
 have hx:∀{a:Option Addr} {l:Byt},Rdx w2 (Mk w1 (ent a' 56 f')) a l->Rdx w2 (fun y=>y<w1.heap.size\/w2.heap.size<=y) a l:=fun{a l} R=>⟨R.1,by
  by_cases hne:l=[]
  .exact .inl hne
  .obtain⟨h1,h2,-⟩:=hb R hne
   exact .inr fun h=>h.elim (fun h=>by omega) fun h=>by omega⟩
 have hh:ms=[]\/∃q,a'=some q/\(q.block,Bl 56 f')∈ent a' 56 f':=by
  cases ha:a' with
  |none =>
   left;have h8:=Os.none' ha;have h9:=Os.le;have h7:=qab List.length hms;rw[qaj]at h7;exact qa4 (by omega)
  |some q=>exact .inr ⟨q,rfl,qaa.2 rfl⟩
 refine⟨OS.rd Os H.blk (fun _ _=>rfl) (by decide),?_,hms,Os.le,fun h=>?_,fun y hy=>?_,fun m hm=>⟨hx (hok m hm).ok.k,hx (hok m hm).ok.v,(hok m hm).ok.kc,(hok m hm).ok.vc⟩,fun m hm=>⟨(hok m hm).uk,(hok m hm).uv⟩⟩
 .refine hh.imp id fun⟨q,hq,hm⟩=>?_;rw[hq];exact⟨(H.own _ hm).resolve_left (by simp),Al (H.blk _ hm)⟩
 .rcases hh with h5|⟨q,hq,hm⟩
  .rw[h5]at h;cases h
  .obtain⟨a,l,R,hne,he⟩:=hbl _ h;refine(hb R hne).2.2 ?_;rw[<-he];refine qah.2 ⟨_,hm,?_⟩;rw[hq];rfl
 .obtain⟨a,l,R,hne,rfl⟩:=hbl y hy;exact⟨(hb R hne).1,(hb R hne).2.1⟩
theorem Own9.wrs(o:Own9 w1 w2 a' c' ms W):Wrs w2 (fun y=>y<w1.heap.size\/w2.heap.size<=y) a' W.length c' W :=
 ⟨⟨ms,o.rd,o.hd.imp id fun h h2=>h2.elim (fun h=>by omega) fun h=>by omega,o.eq,o.ok⟩,rfl,o.le⟩
theorem Own9.turn(o:Own9 w1 w2 a' c' ms W)(hM:∀y,Ms F p y->y<w1.heap.size)(G:Grown (Ms F p) (Ms F' p) w2 w3):Rd w3 a' 3 CO ms/\∀m∈ms,UB w3 m.ka m.x.k.length/\UB w3 m.va m.x.v.length:=by
 obtain⟨⟨S,hS,hx⟩,-⟩:=G;refine⟨?_,fun m hm=>⟨(o.ub m hm).1.ext hx (ON ((o.ok m hm).k.2.imp id fun h h5=>h (.inl (hM _ (hS _ h5))))),(o.ub m hm).2.ext hx (ON ((o.ok m hm).v.2.imp id fun h h5=>h (.inl (hM _ (hS _ h5)))))⟩⟩
 rcases o.hd with h|h
 .rw[h];exact Rd.nil
 .exact o.rd.ext hx fun h5=>by have:=hM _ (hS _ h5);omega
structure Pl(w0 w:World)(p:Sp)(A:Dev)(F:Mut)(N b br:Nat)(L K:List Pr):Prop where
 O:Lv w0 w p A F N b L
 l:A.left = -1
 z:p.z br
 nb:¬Ms F p br
 ge:w0.heap.size<=br
 r:∃a c,w.heap[br]?=some (Bl TRf [.slice a K.length c,.int .i64 (Cu N)])/\Prs w (fun y=>Ms F p y\/y=br) a K.length c K
theorem Pl.call{K:List Pr}(P:Pl w0 w p A F N b br L K)(hx:Ext [] w w'):Pl w0 w' p A F N b br L K:=by
 obtain⟨a,c,h1,h2⟩:=P.r;exact⟨P.O.call hx,P.l,P.z,P.nb,P.ge,a,c,hx.to h1 (by simp),h2.turn (Grown.call hx)⟩
theorem YY(h:Grown (Ms F p) (Ms F' p) w w'):Grown (fun y=>Ms F p y\/y=br) (fun y=>Ms F' p y\/y=br) w w':=by
 obtain⟨⟨S,hS,hx⟩,g⟩:=h;exact⟨⟨S,fun y hy => .inl (hS y hy),hx⟩,fun y hy=>hy.elim (fun h=>(g y h).imp .inl id) fun h => .inl (.inr h)⟩
theorem Pl.got{K:List Pr}(P:Pl w0 w p A F N b br L K)(G:Grown (Ms F p) (Ms F' p) w w')(O:Lv w0 w' p A' F' N b' L')(hl:A'.left = -1):Pl w0 w' p A' F' N b' br L' K:=by
 obtain⟨a,c,h1,h2⟩:=P.r;have hlt:=Al h1;have h3:=h2.turn (YY (br:=br) G);obtain⟨⟨S,hS,hx⟩,g⟩:=G;exact⟨O,hl,P.z,fun h=>(g _ h).elim P.nb fun h=>by omega,P.ge,a,c,hx.to h1 fun h=>P.nb (hS _ h),h3⟩
theorem Pl.commit{K:List Pr}(P:Pl w0 w1 p A F N b br L K)(hx:Ext [] w1 w2)(o:Own9 w1 w2 a' c' ms W)(G:Grown (Ms F (p.zone w1 w2)) (Ms F' (p.zone w1 w2)) w2 w3)(O:Lv w0 w3 (p.zone w1 w2) A' F' N b' L')(hl:A'.left = -1)(h34:Ext (VA ms) w3 w4):Pl w0 w4 (p.zone w1 w2) A' F' N b' br L' K:=by
 obtain⟨a,c,h1,h2⟩:=P.r;have hlt:=Al h1;have hM:=P.O.lt;have hs:=hx.size;have h01:=P.O.bs.1.ext.size;have hS34:∀y∈VA ms,w1.heap.size<=y/\y<w2.heap.size:=o.in'
 have hn34:∀y∈VA ms,¬Ms F' (p.zone w1 w2) y:=fun y hy h=>by
  have:=hS34 y hy
  rcases G.2 y h with h5|h5
  .have:=hM y h5;omega
  .omega
 have h3:=((h2.more hx).turn (TU (YY (br:=br) G) (k:=w1.heap.size) hs)).turn (M':=fun y=>(Ms F' (p.zone w1 w2) y\/y=br)\/w1.heap.size<=y) ⟨Turn.of h34 fun y hy => .inr (hS34 y hy).1,fun y hy => .inl hy⟩;obtain⟨⟨S,hS,hx3⟩,g⟩:=G;refine⟨O.turned h34 fun y hy=>⟨.inr (hS34 y hy),hn34 y hy,by have:=hS34 y hy;omega⟩,hl,.inl P.z,fun h=>(g _ h).elim P.nb fun h=>by omega,P.ge,a,c,h34.to (hx3.to (hx.to h1 (by simp)) fun h=>P.nb (hS _ h)) fun h=>by have:=hS34 _ h;omega,h3.weak fun y hy => .inl hy⟩
theorem Pl.turn{K K':List Pr}{a:Option Addr}{c:Nat}(P:Pl w0 w p A F N b br L K)(hx:Ext [br] w w')(h1:w'.heap[br]?=some (Bl TRf [.slice a K'.length c,.int .i64 (Cu N)]))(h2:Prs w' (fun y=>Ms F p y\/y=br) a K'.length c K'):Pl w0 w' p A F N b br L K' :=
 ⟨P.O.turned hx fun y hy=>by rw[qaa.1 hy];exact⟨P.z,P.nb,P.ge⟩,P.l,P.z,P.nb,P.ge,a,c,h1,h2⟩
end
def QD(st k:Nat):Byt:=[UInt8.ofNat (k / 256),UInt8.ofNat k,UInt8.ofNat (k*st)]
def wrF(st n k:Nat):Wr:=⟨QD st k,List.replicate (n - 7) 0,false⟩
theorem Anh{st a b:Nat}(ha:a<800)(hb:b<800)(h:a≠b):QD st a≠QD st b:=fun e=>by
 unfold QD at e;simp only[qdl]at e;have h1:=qab UInt8.toNat e.1;have h2:=qab UInt8.toNat e.2.1;rw[UInt8.toNat_ofNat',UInt8.toNat_ofNat']at h1 h2;omega
theorem Af7{L:List Pr}(h:Rising L){k v:Byt}(hk:∀q∈L,q.1≠k):(HO L k v).Perm ((k,v)::L):=by
 have n1:=Fq (Jg (GI h k v));have n2:((k,v)::L).Nodup:=qck.2 ⟨fun h5=>hk _ h5 rfl,Fq (Jg h)⟩;refine(qd2 n1 n2).2 fun⟨k',u⟩=>?_;rw[Ac6,qac,qdb];exact or_congr Iff.rfl ⟨fun h5=>h5.1,fun h5=>⟨h5,hk _ h5⟩⟩
structure FuL(st n:Nat)(f:Nat->Nat)(i count:Nat)(L:List Pr):Prop where
 bytes:B0 L=count*n
 len:L.length=count
 keys:∀q∈L,∃j,j<i/\q.1=QD st (f j)
section
variable {st n i count:Nat}{f:Nat->Nat}{L:List Pr}
theorem FuL.fresh(h:FuL st n f i count L)(hf:∀j,j<800->f j<800)(hi:∀j k,j<k->k<800->f j≠f k)(h8:i<800):∀q∈L,q.1≠QD st (f i):=fun q hq=>by
 obtain⟨j,hj,he⟩:=h.keys q hq;rw[he];exact Anh (hf j (by omega)) (hf i h8) (hi j i hj h8)
theorem FuL.perm(h:FuL st n f i count L)(hr:Rising L)(hk:∀q∈L,q.1≠QD st (f i)):(DO L [wrF st n (f i)]).Perm ((QD st (f i),List.replicate (n - 7) 0)::L):=Af7 hr hk
theorem FuL.bytes1(h:FuL st n f i count L)(hr:Rising L)(hk:∀q∈L,q.1≠QD st (f i))(hn:8<=n):B0 (DO L [wrF st n (f i)])=(count+1)*n:=by
 rw[GQ (h.perm hr hk),FM,h.bytes,qba,qco];show 4+3+(n - 7)+count*n=_;omega
theorem FuL.more(h:FuL st n f i count L)(hr:Rising L)(hk:∀q∈L,q.1≠QD st (f i))(hn:8<=n):FuL st n f (i+1) (count+1) (DO L [wrF st n (f i)]):=by
 refine⟨h.bytes1 hr hk hn,by rw[(h.perm hr hk).length_eq,qaw,h.len],fun q hq=>?_⟩
 rcases qac.1 ((h.perm hr hk).mem_iff.1 hq)with rfl|hq
 .exact⟨i,by omega,rfl⟩
 .obtain⟨j,hj,he⟩:=h.keys q hq;exact⟨j,by omega,he⟩
theorem FuL.skip(h:FuL st n f i count L):FuL st n f (i+1) count L :=
 ⟨h.bytes,h.len,fun q hq=>let ⟨j,hj,he⟩:=h.keys q hq;⟨j,by omega,he⟩⟩
theorem Ani:Cu ((442:Nat):Int)=7781:=by decide
theorem FuL.right(h:FuL st n f i count L)(hr:Rising L)(hk:∀q∈L,q.1≠QD st (f i))(hn:8<=n/\n<=135):C8 442 L [wrF st n (f i)]=if 7781<(count+1)*n then 7 else 0:=by
 have hm:Hl [] [wrF st n (f i)]=true:=by
  simp[Hl,HB,wrF,QD];omega
 unfold C8;rw[if_neg (by show ¬1000<1;decide),if_pos hm,h.bytes1 hr hk hn.1,Ani]
 by_cases h5:7781<(count+1)*n
 .rw[if_pos h5,if_pos (by omega)]
 .rw[if_neg h5,if_neg (by omega)]
end
attribute [local irreducible] AB W Wq Wt
section
variable {w0 w w':World}{p p2:Sp}{N b b' br:Nat}{A A':Dev}{L L' K:List Pr}{F F':Mut}
theorem Pl.mono(P:Pl w0 w p A F N b br L K)(h:b<=b'):Pl w0 w p A F N b' br L K:=⟨P.O.mono h,P.l,P.z,P.nb,P.ge,P.r⟩
def Rp9(w:World)(F:Mut)(N br:Nat)(K:List Pr):Prop:=∃a c,w.heap[br]?=some (Bl TRf [.slice a K.length c,.int .i64 (Cu N)])/\Prs w (fun y=>F y\/y=br) a K.length c K
theorem YZ(h:Grown F F' w w'):Grown (fun y=>F y\/y=br) (fun y=>F' y\/y=br) w w':=by
 obtain⟨⟨S,hS,hx⟩,g⟩:=h;exact⟨⟨S,fun y hy => .inl (hS y hy),hx⟩,fun y hy=>hy.elim (fun h=>(g y h).imp .inl id) fun h => .inl (.inr h)⟩
theorem Rp9.turn(h:Rp9 w F N br K)(G:Grown F F' w w')(hn:¬F br):Rp9 w' F' N br K:=by
 obtain⟨a,c,h1,h2⟩:=h;exact⟨a,c,G.keep h1 hn,h2.turn (YZ G)⟩
theorem Pl.rp(P:Pl w0 w p A F N b br L K):Rp9 w F N br K/\¬F br/\br<w.heap.size:=by
 obtain⟨a,c,h1,h2⟩:=P.r;exact⟨⟨a,c,h1,h2.weak fun y hy=>hy.imp (fun h => .inl (.inl h)) id⟩,fun h=>P.nb (.inl (.inl h)),Al h1⟩
theorem Pl.few(P:Pl w0 w p A F N b br L K):Few A 0/\A.on=true:=by
 obtain⟨-,R,V,gen,root,M,S,Ws,g,-⟩:=P.O.bs;exact⟨g.good.few,g.on⟩
theorem Pl.opened(O:Lv w0 w' p2 A F' N b L)(hl:A.left = -1)(hR:Rp9 w F N br K)(hn:¬F br)(hge:w0.heap.size<=br)(hx:Ext [] w w')(hms:∀y,Ms F' p2 y->F y\/w.heap.size<=y)(hz:∀y,y<w.heap.size->p2.z y):Pl w0 w' p2 A F' N b br L K:=by
 obtain⟨a,c,h1,h2⟩:=hR;have hlt:=Al h1;exact⟨O,hl,hz _ hlt,fun h=>(hms _ h).elim hn fun h=>by omega,hge,a,c,hx.to h1 (by simp),(h2.more hx).weak fun y hy=>hy.elim (fun h=>(hms y h).imp .inl id) fun h => .inl (.inr h)⟩
theorem Pl.made(O:Lv w0 w' p2 A' F' N b L)(hl:A'.left = -1)(hR:Rp9 w F N br K)(hn:¬F br)(hge:w0.heap.size<=br)(G:Grown F (Ms F' p2) w w')(hz:∀y,y<w.heap.size->p2.z y):Pl w0 w' p2 A' F' N b br L K:=by
 obtain⟨a,c,h1,h2⟩:=hR;have hlt:=Al h1;exact⟨O,hl,hz _ hlt,fun h=>(G.2 _ h).elim hn fun h=>by omega,hge,a,c,G.keep h1 hn,h2.turn (YZ G)⟩
end
section
variable {w0 w w':World}{p p2:Sp}{N b b' br bb:Nat}{A A':Dev}{L L' K K' B:List Pr}{F F':Mut}{M M':Mut}
structure Rf9(w:World)(M:Mut)(N br bb:Nat)(K B:List Pr):Prop where
 ne:br≠bb
 nr:¬M br
 nb:¬M bb
 r:∃a c,w.heap[br]?=some (Bl TRf [.slice a K.length c,.int .i64 (Cu N)])/\Prs w (fun y=>M y\/y=br\/y=bb) a K.length c K
 s:∃a c,w.heap[bb]?=some (Bl TRf [.slice a B.length c,.int .i64 (Cu N)])/\Prs w (fun y=>M y\/y=br\/y=bb) a B.length c B
theorem Za(h:Grown M M' w w'):Grown (fun y=>M y\/y=br\/y=bb) (fun y=>M' y\/y=br\/y=bb) w w':=by
 obtain⟨⟨S,hS,hx⟩,g⟩:=h;exact⟨⟨S,fun y hy => .inl (hS y hy),hx⟩,fun y hy=>hy.elim (fun h=>(g y h).imp .inl id) fun h => .inl (.inr h)⟩
theorem Rf9.lt(h:Rf9 w M N br bb K B):br<w.heap.size/\bb<w.heap.size:=by
 obtain⟨a,c,h1,-⟩:=h.r;obtain⟨a2,c2,h2,-⟩:=h.s;exact⟨Al h1,Al h2⟩
theorem Rf9.turn(h:Rf9 w M N br bb K B)(G:Grown M M' w w'):Rf9 w' M' N br bb K B:=by
 have hlt:=h.lt;obtain⟨a,c,h1,h2⟩:=h.r;obtain⟨a',c',h3,h4⟩:=h.s;exact⟨h.ne,fun q=>(G.2 _ q).elim h.nr fun q=>by omega,fun q=>(G.2 _ q).elim h.nb fun q=>by omega,⟨a,c,G.keep h1 h.nr,h2.turn (Za G)⟩,⟨a',c',G.keep h3 h.nb,h4.turn (Za G)⟩⟩
theorem Rf9.weak(h:Rf9 w M N br bb K B)(hM:∀y,M' y->M y):Rf9 w M' N br bb K B:=by
 obtain⟨a,c,h1,h2⟩:=h.r;obtain⟨a',c',h3,h4⟩:=h.s;exact⟨h.ne,fun q=>h.nr (hM _ q),fun q=>h.nb (hM _ q),⟨a,c,h1,h2.weak fun y hy=>hy.imp (hM y) id⟩,⟨a',c',h3,h4.weak fun y hy=>hy.imp (hM y) id⟩⟩
theorem Rf9.call(h:Rf9 w M N br bb K B)(hx:Ext [] w w'):Rf9 w' M N br bb K B:=h.turn (Grown.call hx)
theorem Rf9.set(h:Rf9 w M N br bb K B)(hx:Ext [br] w w'){a:Option Addr}{c:Nat}(h1:w'.heap[br]?=some (Bl TRf [.slice a K'.length c,.int .i64 (Cu N)]))(h2:Prs w' (fun y=>M y\/y=br\/y=bb) a K'.length c K'):Rf9 w' M N br bb K' B:=by
 obtain⟨a',c',h3,h4⟩:=h.s;exact⟨h.ne,h.nr,h.nb,⟨a,c,h1,h2⟩,⟨a',c',hx.to h3 (by simpa using Ne.symm h.ne),h4.turn ⟨Turn.of hx fun y hy => .inr (.inl (qaa.1 hy)),fun y hy => .inl hy⟩⟩⟩
end
section
variable {w0 w w':World}{p p2:Sp}{N b b' br bb:Nat}{A A':Dev}{L L' K K' B:List Pr}{F F':Mut}{M M':Mut}
theorem ms_of(G:Grown F F w w'):Grown (Ms F p) (Ms F p) w w':=by
 obtain⟨⟨S,hS,hx⟩,-⟩:=G;exact⟨⟨S,fun y hy => .inl (.inl (hS y hy)),hx⟩,fun y hy => .inl hy⟩
theorem Rf9.big(h:Rf9 w M N br bb K B):Rf9 w (fun y=>M y\/w.heap.size<=y) N br bb K B:=by
 have hlt:=h.lt;obtain⟨a,c,h1,h2⟩:=h.r;obtain⟨a',c',h3,h4⟩:=h.s
 have hw:∀y,((M y\/w.heap.size<=y)\/y=br\/y=bb)->(M y\/y=br\/y=bb)\/w.heap.size<=y:=fun y hy=>by
  rcases hy with(hy|hy)|hy
  .exact .inl (.inl hy)
  .exact .inr hy
  .exact .inl (.inr hy)
 exact⟨h.ne,fun q=>q.elim h.nr fun q=>by omega,fun q=>q.elim h.nb fun q=>by omega,⟨a,c,h1,(h2.more (Ext.refl [] w)).weak hw⟩,⟨a',c',h3,(h4.more (Ext.refl [] w)).weak hw⟩⟩
theorem Rf9.swap(h:Rf9 w M N br bb K B):Rf9 w M N bb br B K:=by
 obtain⟨a,c,h1,h2⟩:=h.r;obtain⟨a',c',h3,h4⟩:=h.s;exact⟨Ne.symm h.ne,h.nb,h.nr,⟨a',c',h3,h4.weak fun y hy=>hy.imp id Or.symm⟩,⟨a,c,h1,h2.weak fun y hy=>hy.imp id Or.symm⟩⟩
theorem Rf9.one(h:Rf9 w M N br bb K B):Rp9 w M N br K:=by
 obtain⟨a,c,h1,h2⟩:=h.r;exact⟨a,c,h1,h2.weak fun y hy=>hy.imp id .inl⟩
theorem Rf9.two{a:Option Addr}{c:Nat}(h1:w.heap[br]?=some (Bl TRf [.slice a K.length c,.int .i64 (Cu N)]))(h2:Prs w (fun y=>M y\/y=br) a K.length c K)(hn:¬M br)(hM:∀y,M y->y<w.heap.size)(hx:Ext [] w w')(hb:w.heap.size<=bb)(h3:w'.heap[bb]?=some (Bl TRf [.slice a K.length c,.int .i64 (Cu N)])):Rf9 w' M N br bb K K:=by
 have hlt:=Al h1
 have h4:=(h2.more hx).weak (M':=fun y=>M y\/y=br\/y=bb) fun y hy=>by
  rcases hy with hy|rfl|rfl
  .exact .inl (.inl hy)
  .exact .inl (.inr U)
  .exact .inr hb
 exact⟨by omega,hn,fun q=>by have:=hM _ q;omega,⟨a,c,hx.to h1 (by simp),h4⟩,⟨a,c,h3,h4⟩⟩
structure Pc(w0 w:World)(p:Sp)(A:Dev)(F:Mut)(N b br bb:Nat)(L K B:List Pr):Prop where
 O:Lv w0 w p A F N b L
 z:p.z br/\p.z bb
 g:w0.heap.size<=br/\w0.heap.size<=bb
 f:Rf9 w (Ms F p) N br bb K B
theorem Pc.call(P:Pc w0 w p A F N b br bb L K B)(hx:Ext [] w w'):Pc w0 w' p A F N b br bb L K B:=⟨P.O.call hx,P.z,P.g,P.f.call hx⟩
theorem Pc.got(P:Pc w0 w p A F N b br bb L K B)(O:Lv w0 w' p A' F' N b' L')(G:Grown (Ms F p) (Ms F' p) w w'):Pc w0 w' p A' F' N b' br bb L' K B:=⟨O,P.z,P.g,P.f.turn G⟩
theorem Pc.set(P:Pc w0 w p A F N b br bb L K B)(hx:Ext [br] w w'){a:Option Addr}{c:Nat}(h1:w'.heap[br]?=some (Bl TRf [.slice a K'.length c,.int .i64 (Cu N)]))(h2:Prs w' (fun y=>Ms F p y\/y=br\/y=bb) a K'.length c K'):Pc w0 w' p A F N b br bb L K' B :=
 ⟨P.O.turned hx fun y hy=>by rw[qaa.1 hy];exact⟨P.z.1,P.f.nr,P.g.1⟩,P.z,P.g,P.f.set hx h1 h2⟩
structure Dc(w0 w:World)(p:Sp)(A:Dev)(F:Mut)(N br bb:Nat)(K B:List Pr):Prop where
 D:Dd9 w0 w p A F
 g:w0.heap.size<=br/\w0.heap.size<=bb
 f:Rf9 w F N br bb K B
 n:p.bs≠br
theorem Pc.cut(P:Pc w0 w p A F N b br bb L K B)(D:Dd9 w0 w' p A' F')(G:Grown (Ms F p) (Ms F' p) w w'):Dc w0 w' p A' F' N br bb K B :=
 ⟨D,P.g,(P.f.turn G).weak fun y hy => .inl (.inl hy),fun h=>P.f.nr (.inr (by rw[<-h];simp[Sp.own]))⟩
theorem Dc.call(P:Dc w0 w p A F N br bb K B)(hx:Ext [] w w'):Dc w0 w' p A F N br bb K B:=⟨P.D.call hx,P.g,P.f.call hx,P.n⟩
theorem Dc.set(P:Dc w0 w p A F N br bb K B)(hx:Ext [br] w w'){a:Option Addr}{c:Nat}(h1:w'.heap[br]?=some (Bl TRf [.slice a K'.length c,.int .i64 (Cu N)]))(h2:Prs w' (fun y=>F y\/y=br\/y=bb) a K'.length c K'):Dc w0 w' p A F N br bb K' B:=by
 obtain⟨vj,vp,vt,gen,root,n,h⟩:=P.D.bs;exact⟨⟨P.D.own.over hx (fun y hy=>by rw[qaa.1 hy];exact P.f.nr) (fun y hy=>by rw[qaa.1 hy];exact P.g.1),⟨vj,vp,vt,gen,root,n,hx.to h (by simpa using P.n)⟩,P.D.nF,P.D.ge,P.D.off,P.D.few⟩,P.g,P.f.set hx h1 h2,P.n⟩
theorem Dc.opened(P:Dc w0 w p A F N br bb K B)(O:Lv w0 w' p2 A' F N b L)(G:Grown F F w w')(hms:∀y,Ms F p2 y->F y\/w.heap.size<=y)(hz:∀y,y<w.heap.size->p2.z y):Pc w0 w' p2 A' F N b br bb L K B :=
 ⟨O,⟨hz _ P.f.lt.1,hz _ P.f.lt.2⟩,P.g,(P.f.big.turn (TU G (qae _))).weak hms⟩
theorem Pc.opened(P:Pc w0 w p A F N b br bb L K B)(O:Lv w0 w' p2 A' F N b' L')(hx:Ext [] w w')(hms:∀y,Ms F p2 y->F y\/w.heap.size<=y)(hz:∀y,y<w.heap.size->p2.z y):Pc w0 w' p2 A' F N b' br bb L' K B :=
 ⟨O,⟨hz _ P.f.lt.1,hz _ P.f.lt.2⟩,P.g,((P.f.weak fun _ hy => .inl (.inl hy)).big.turn (Grown.call hx)).weak hms⟩
end
open Go.GV Go.Proofs.Tryz Go.ChangeShapes Go.WideShapes Go.ChangeAt Go.RowKit
theorem own:ownKnob Tryz.prog.godebug=none:=by kernel_rfl
theorem Anj:laidOutB prog=true:=by kernel_rfl
def Aqi:List Nat:=[128,191,160,191,128,159,144,191,128,143]++List.replicate 22 0
def layO(l:List Nat):Obj->Obj
 | .cells _ t frozen => .cells (l.map fun(n:Nat)=>Value.int .u8 (n:Int)).toArray t frozen
 |o=>o
noncomputable def laidWorld(os:Os):World :=
 { World.holding prog os ⟨#[],#[],[]⟩with heap:=((World.holding prog os ⟨#[],#[],[]⟩).heap.modify 1 (layO Go.Pinned.utf8FirstZ)).modify 2 (layO Aqi) }
theorem TY{H:Type}{enc:TypeId × Value->H}{w:World}{base:Nat}{spare:Nat->Bool}{held:Bool}:∀n cs y,DataW.trod enc prog w base spare held n 5 cs=some y->∃b:UInt8,cs=B8 b/\True:=by
 intro n cs y h;obtain⟨d,rfl,h1,h2⟩:=Abm underlying5 n cs y h;have h1:(0:Int)<=d:=h1;have h2:d<=255:=h2;refine⟨UInt8.ofNat d.toNat,?_,trivial⟩
 have:(UInt8.ofNat d.toNat).toNat=d.toNat:=by simp[UInt8.toNat_ofNat'];omega
 rw[B8,bv,this,Int.toNat_of_nonneg h1]
theorem PP:Tryz.prog.cellsOf 5=1:=by kernel_rfl
theorem Af8:∃fs,Tryz.prog.underlying 56=some (.struct fs)/\(List.range 3).map (fun i=>fs[i]?.map fun f=>(f.type,f.offset))=[some (24,0),some (24,1),some (4,2)]:=⟨_,underlying56,by kernel_rfl⟩
theorem Zb:Tryz.prog.cellsOf 56=3:=by kernel_rfl
theorem TZ:Tryz.prog.cellsOf 24=1:=by kernel_rfl
theorem VB:Tryz.prog.bytesOf 5=1:=by kernel_rfl
theorem Aqj{k:Int}{m:Nat}(h1:0<=k)(h2:k<=m):∃n:Nat,k=n/\n<=m:=⟨k.toNat,by omega,by omega⟩
structure Wm.In(w:World)(m:Wm):Prop where
 k:Rd w m.ka 1 B8 m.x.k
 v:Rd w m.va 1 B8 m.x.v
 kc:m.x.k.length<=m.kc
 vc:m.x.v.length<=m.vc
theorem Zc:Tryz.prog.cellsOf 39=1:=by kernel_rfl
theorem Af9:Tryz.prog.cellsOf 40=1:=by kernel_rfl
theorem Ak1:Tryz.prog.cellsOf 3=1:=by kernel_rfl
theorem Ak2:1<=Tryz.prog.bytesOf 56:=qb5 (by kernel_rfl)
theorem Ak3:1<=Tryz.prog.bytesOf 3:=qb5 (by kernel_rfl)
theorem Ak4:1<=Tryz.prog.bytesOf 42:=qb5 (by kernel_rfl)
theorem Aga:∃fs,Tryz.prog.underlying 42=some (.struct fs)/\(List.range 4).map (fun i=>fs[i]?.map fun f=>(f.type,f.offset))=[some (3,0),some (39,1),some (4,2),some (40,3)]:=⟨_,underlying42,by kernel_rfl⟩
theorem Zd:Tryz.prog.cellsOf 42=4:=by kernel_rfl
theorem LO{n b:Nat}(h:n*b<=reachBytes)(hb:1<=b):n<=1152921504606846976:=by
 unfold reachBytes at h;have:=qb6 n hb;omega
set_option maxRecDepth 100000 in
theorem Ak5{H:Type}{enc:TypeId × Value->H}{w:World}{base:Nat}{spare:Nat->Bool}{held:Bool}:∀n cs y,DataW.trod enc prog w base spare held n 56 cs=some y->Light prog 56 y.1->∃d:Wm,cs=CO d/\(d.In w/\d.x.k.length<=1152921504606846976/\d.x.v.length<=1152921504606846976):=by
 intro n cs y h hL;obtain⟨fs,ht,hf⟩:=Af8;have hl:=U6 ht h;rw[Zb]at hl;simp only[List.range,List.range.loop,qay,qbn,qdl,and_true]at hf;obtain⟨f0,f1,f2⟩:=hf;obtain⟨ca,cc,cl,hc,cR,cle,_,cw,_⟩:=Mc ht h hL 0 0 f0 underlying24 TZ PP (fun n cs y h _=>TY n cs y h);obtain⟨ga,gc,gl,hg,gR,gle,_,gw,_⟩:=Mc ht h hL 1 1 f1 underlying24 TZ PP (fun n cs y h _=>TY n cs y h);obtain⟨e,he⟩:=WY ht h 2 2 f2 underlying4;rw[VB]at cw gw;refine⟨⟨ca,cc,ga,gc,⟨cl,gl,e⟩⟩,?_,⟨cR,gR,cle,gle⟩,LO cw (qae _),LO gw (qae _)⟩
 match cs,hl with
 | [_,_,_],_ =>
  simp at hc hg he;simp[CO,hc,hg,he]
set_option maxRecDepth 100000 in
theorem Ank{H:Type}{enc:TypeId × Value->H}{w:World}{base:Nat}{spare:Nat->Bool}{held:Bool}:∀n cs y,DataW.trod enc prog w base spare held n 42 cs=some y->Light prog 42 y.1->∃d:Sg9,cs=Q6 d/\d.In w:=by
 intro n cs y h hL;obtain⟨fs,ht,hf⟩:=Aga;have hl:=U6 ht h;rw[Zd]at hl;simp only[List.range,List.range.loop,qay,qbn,qdl,and_true]at hf;obtain⟨f0,f1,f2,f3⟩:=hf;obtain⟨d,hd,d1,d2⟩:=Alp ht h 0 0 f0 underlying3;obtain⟨la,lc,ll,hll,lR,lle,_,lw,lG⟩:=Mc ht h hL 1 1 f1 underlying39 Zc Zb Ak5;obtain⟨e,he⟩:=WY ht h 2 2 f2 underlying4;obtain⟨pa,pc,pl,hpl,pR,ple,_,pw,pG⟩:=Mc (encd:=fun x:Int=>[.int .i64 x]) (Good:=fun x:Int=>IntKind.min .i64<=x/\x<=IntKind.max .i64) ht h hL 3 3 f3 underlying40 Af9 Ak1 (fun n cs y h _=>Abm underlying3 n cs y h);have hln:(ll.map (·.x)).length=ll.length:=qaj ..
 refine⟨⟨d,la,lc,ll.map (·.x),e,pa,pc,pl⟩,?_,⟨⟨d1,d2⟩,⟨⟨ll,lR,.inr id,rfl,fun m hm=>⟨⟨(lG m hm).1.k,.inr id⟩,⟨(lG m hm).1.v,.inr id⟩,(lG m hm).1.kc,(lG m hm).1.vc⟩⟩,rfl,by rw[hln];exact lle⟩,by rw[hln];exact LO lw Ak2,fun y hy=>?_,pR,⟨LO pw Ak3,ple⟩,fun x hx=>pG x hx⟩⟩
 .match cs,hl with
  | [_,_,_,_],_ =>
   simp at hd hll he hpl;simp[Q6,hd,hll,he,hpl]
 .obtain⟨m,hm,rfl⟩:=qah.1 hy;exact(lG m hm).2
section
variable {w0 w w':World}{p:Sp}{N b b' br bb:Nat}{A:Dev}{L K B:List Pr}{F:Mut}
theorem Pc.mono(P:Pc w0 w p A F N b br bb L K B)(h:b<=b'):Pc w0 w p A F N b' br bb L K B:=⟨P.O.mono h,P.z,P.g,P.f⟩
theorem Pc.swap(P:Pc w0 w p A F N b br bb L K B):Pc w0 w p A F N b bb br L B K:=⟨P.O,P.z.symm,P.g.symm,P.f.swap⟩
theorem Lv.on(O:Lv w0 w p A F N b L):A.on=true:=by
 obtain⟨-,R,V,gen,root,M,S,Ws,g,-⟩:=O.bs;exact g.on
def Jn(w0:World)(p:Sp)(N b br bb b15:Nat)(o15:Obj)(L:List Pr)(e:Int)(w':World):Prop :=
 w'.heap[b15]?=some o15/\((e≠8/\∃A F L',Pc w0 w' p A F N b br bb L' L' L/\¬Ms F p b15)\/(e=8/\∃A F L',Dc w0 w' p A F N br bb L' L/\¬F b15/\(OkP L'/\L'.length<=20000)/\∀picks,Bk N b L (onD A picks)\/Bk N b L' (onD A picks)))
variable {b15:Nat}{o15:Obj}{v:Value}{L':List Pr}
theorem Ak6(P:Pc w0 w p A F N b br bb L L L)(h15:w.heap[b15]?=some o15)(hm:¬Ms F p b15)(h:(v=.int .i64 0/\Got9 w0 w p A F N b' L w')\/(v=.int .i64 8/\Cut9 w0 w p A F N b' L L w')):∃e,v=.int .i64 e/\Jn w0 p N b' br bb b15 o15 L e w':=by
 have hlt:=Al h15
 rcases h with⟨rfl,A2,F3,O3,G3,-⟩|⟨rfl,hl3,A2,F3,D3,G3,hbk⟩
 .exact⟨0,rfl,G3.keep h15 hm,.inl ⟨by decide,A2,F3,L,P.got O3 G3,fun h=>(G3.2 _ h).elim hm fun h=>by omega⟩⟩
 .exact⟨8,rfl,G3.keep h15 hm,.inr ⟨rfl,A2,F3,L,P.cut D3 G3,fun h=>(G3.2 _ (.inl (.inl h))).elim hm fun h=>by omega,⟨P.O.nums.2.2.2.2.2.2,by have:=P.O.nums.2.2.1;omega⟩,hbk⟩⟩
def Jc(w0:World)(p:Sp)(N b br bb b15:Nat)(o15:Obj)(L:List Pr)(W:List Wr)(e:Int)(w':World):Prop :=
 w'.heap[b15]?=some o15/\((e=C8 N L W/\∃A F,Pc w0 w' p A F N b br bb (if C8 N L W=0 then DO L W else L) L L/\¬Ms F p b15)\/(e=8/\C8 N L W=0/\∃A F,Dc w0 w' p A F N br bb L L/\¬F b15/\∀picks,Bk N b L (onD A picks)\/Bk N b (DO L W) (onD A picks)))
theorem Agb{W:List Wr}(P:Pc w0 w p A F N b br bb L L L)(h15:w.heap[b15]?=some o15)(hm:¬Ms F p b15)(h:(v=.int .i64 (C8 N L W)/\Got9 w0 w p A F N b' (if C8 N L W=0 then DO L W else L) w')\/(v=.int .i64 8/\C8 N L W=0/\W≠[]/\Cut9 w0 w p A F N b' L (DO L W) w')):∃e,v=.int .i64 e/\Jc w0 p N b' br bb b15 o15 L W e w':=by
 have hlt:=Al h15
 rcases h with⟨rfl,A2,F3,O3,G3,-⟩|⟨rfl,h0,-,hl3,A2,F3,D3,G3,hbk⟩
 .exact⟨_,rfl,G3.keep h15 hm,.inl ⟨rfl,A2,F3,P.got O3 G3,fun h=>(G3.2 _ h).elim hm fun h=>by omega⟩⟩
 .exact⟨8,rfl,G3.keep h15 hm,.inr ⟨rfl,h0,A2,F3,P.cut D3 G3,fun h=>(G3.2 _ (.inl (.inl h))).elim hm fun h=>by omega,hbk⟩⟩
theorem Jc.ref{W:List Wr}{e:Int}(h:Jc w0 p N b br bb b15 o15 L W e w)(ho:OkP L)(hl:L.length<=10000):Ext [] w0 w/\∃M,Rf9 w M N br bb L L/\(∀y,M y->y<w.heap.size)/\∀w' (a:Option Addr) (c:Nat),Ext [br] w w'->b15≠br->w'.heap[br]?=some (Bl TRf [.slice a (if C8 N L W=0 then DO L W else L).length c,.int .i64 (Cu N)])->Prs w' (fun y=>M y\/y=br\/y=bb) a (if C8 N L W=0 then DO L W else L).length c (if C8 N L W=0 then DO L W else L)->Jn w0 p N b br bb b15 o15 L e w':=by
 obtain⟨h15,h⟩:=h
 rcases h with⟨rfl,A,F,P,hm⟩|⟨rfl,h0,A,F,P,hm,hbk⟩
 .refine⟨P.O.bs.1.ext,_,P.f,P.O.lt,fun w' a c hx hne h1 h2=>⟨hx.to h15 (by simpa using hne),.inl ⟨?_,A,F,_,P.set hx h1 h2,hm⟩⟩⟩;unfold C8
  split
  .decide
  .split
   .split <;> decide
   .decide
 .refine⟨P.D.own.ext,_,P.f,fun y hy=>(P.D.own.own y hy).2,fun w' a c hx hne h1 h2=>⟨hx.to h15 (by simpa using hne),.inr ⟨rfl,A,F,_,P.set hx h1 h2,hm,?_⟩⟩⟩;rw[if_pos h0];obtain⟨r1,r2,-⟩:=K1 h0;have:=TX W L;exact⟨⟨OI ho r2,by omega⟩,hbk⟩
end
set_option maxRecDepth 100000 in
theorem Uh(blocks:Nat)(hb:blocks<=65535){sa aa:Option Addr}{sc ac:Nat}{ms:List Sg9}{ar:Byt}(w:World)(R:Rd w sa 4 Q6 ms)(hin:∀m∈ms,m.In w)(hn2:ms.length<=1152921504606846976)(Ra:Rd w aa 1 B8 ar)(har:ar.length<=9000000000000000000:=by omega):
  Ret prog 6 #[.int .u16 (blocks:Int),.slice sa ms.length sc,.slice aa ar.length ac] w fun v w'=>v=.bool true/\Ext [] w w':=by
 obtain⟨w0,rfl⟩:=qD w;obtain⟨N,hN⟩:=qD (442+blocks % 400:Nat);have hN1:442<=N/\N<=841:=by omega
 have hNI:(442:Int)+(blocks:Int) % 400=(N:Int):=by omega
 have hrr:=Ae0 (N:Int) (by omega);refine A6 (fn:=f6) func6 U [.int .u16 (blocks:Int),.slice sa ms.length sc,.slice aa ar.length ac] U (Ad (An U (qA (Aq (Ad (Aj U (Ai qB (Anf R U hin hn2) U ?_)))))));rintro v w25 ⟨bo,rfl,hbo,hx25⟩;refine BX U (AA U (AR 26 U ?_ ?_))
 .intro h1;replace h1:=Cz h1;refine Ag U (Ag U (Ag U (AN U (.bool _) U (qA (EA U (Ad (Ai qB (PN _) U ?_)))))));rintro v w37 ⟨rfl,hx37⟩;refine An U (qA (Ax (Ao (AG (v:=(.bool _)) U U U ?_))));exact⟨rfl,hx25.trans hx37⟩
 .intro h1;replace h1:=C0 h1;refine Aj U (AP AX U (BZ U U (AK U (.bool _) U (qA (Au _ U ?_ ?_)))))
  .intro h2;replace h2:=AV h2;refine Ad (Ai qB (PN _) U ?_);rintro v w37 ⟨rfl,hx37⟩;refine An U (qA (Ax (Ao (AG (v:=(.bool _)) U U U ?_))));exact⟨rfl,hx25.trans hx37⟩
  .intro h2;replace h2:=AW h2;obtain⟨hn150,hgood⟩:=hbo (by simpa using h1);refine Ap (Aa (Ad (Ae U (Ej U un_22 Ge ?_))));refine Ro U U U (A7 U U ?_);rw[hNI];refine Ac U (qA (Ad (Ae U (Ai qB (Ab6 (n:=(N:Int)) (by omega) (by omega) _) U ?_))));rw[qbo];rintro v w44 ⟨bd,F,rfl,D⟩;refine AQ U (Ah U U (Ah U U (Bx U (Ac U (qA (Ad (Am U (Ai qB (YR hN1 D) U ?_))))))));rintro v w49 ⟨p,A,F1,rfl,hpb,O,hl,-⟩;refine AQ U (Ah U U (Ah U U (Bx U (Ac U (qA (Ad (Ae U (Ai qB (hrr _) U ?_))))))));rintro v w53 ⟨rfl,h53⟩;rw[h53]at O;have H:=Ctx.start w53 [];refine B2 [.slice none 0 0,.int .i64 (Cu N)] Aob Aof (Cn [.slice none 0 0,.int .i64 (Cu N)] (.agg _) U U H ?_);rintro br w55 - H
   refine Bx U (qA (Aq (Ad (Ae U (Ba U U (AA U (Ae U (Ba U U (AK U (.bool _) U ?_)))))))));refine AA U (Am U (BW Ss U ?_));refine AK U (.bool _) U (qA (Bz U (Ap (Aa (Ad (Ac U (qA (Aq (Ad (Ac U ?_))))))))));refine qA (AE ?_);have hbr:=(H.own _ (qaa.2 rfl)).resolve_left (by simp);dsimp only at hbr;have O1:Lv w25 w55 (p.zone w53 w55) A F1 N 1 []:=O.zone H.ext;have hb0:=H.get at0;refine B7 12855504354071922204335696738729300820177622797340838083949632 (α:=Nat × Nat × Nat × Nat) (fun s=>[(14,.int .i64 (s.1:Int)),(13,.int .i64 (s.2.1:Int)),(10,ptr s.2.2.1),(12,ptr s.2.2.2)]) (fun s w'=>s.1<=ms.length/\s.2.1<=ar.length/\∃p A F L,p.bs=s.2.2.1/\p.bd=bd/\Lv w25 w' p A F N (1+3*s.1) L/\p.z s.2.2.2/\w25.heap.size<=s.2.2.2/\¬Ms F p s.2.2.2/\Rp9 w' (Ms F p) N s.2.2.2 L) (fun s=>ms.length - s.1) (0,0,p.bs,br) U ?_ ?_ ?_
   .exact⟨rfl,rfl,rfl,rfl,trivial⟩
   .exact⟨qak _,qak _,p.zone w53 w55,A,F1,[],rfl,hpb,O1,.inr ⟨hbr,Al hb0⟩,qav O.bs.1.ext.size hbr,fun h=>by have h5:=O.lt br h;omega,none,0,hb0,Prs.nil⟩
   .clear O1 hb0 hbr H O;rintro⟨i,nx,bs,br⟩ j w ⟨hi,hnx,p1,A0,F2,L,hps,hpd,O,hz,hg,hn,hr⟩;dsimp only at hi hnx hps O hz hg hn hr;dsimp only;subst hps hpd;refine Aq (Ad (Ae U (Aj U (AP Qj U (Bn U U (qA (Au _ U ?_ ?_)))))))
    .intro hB;replace hB:=AV hB;obtain⟨x,hx1⟩:=AO (l:=ms) (i:=i);have hxi:=hin x (qad hx1);obtain⟨g1,g2,g3⟩:=hgood x (qad hx1);have hlw:∀y∈x.L,y.k.length<=1000000/\y.v.length<=1000000:=fun y hy=>by have:=g3 y hy;omega
     have hE:=hx25.trans O.bs.1.ext;obtain⟨w1,rfl⟩:=qD w;refine Ap (Aa (Aq (AE (Aq (OU 37705144886662323503104 (α:=Unit) (fun _=>[(74,.bool (decide (nx<ar.length) && decide (i % 2=0)))]) (fun _ w'=>w'=w1) U ?_ ?_)))))
     .skip
      refine Av (Ae U (Aj U (AP AX U (Bn U U (AA U (AR 70 U ?_ ?_))))))
      .intro hA;replace hA:=AV hA;refine Ae U (Ro U U U ?_);refine B6 U U (AN U (.bool _) U (qA ?_));exact⟨(),rfl,⟨qab Value.bool (by rw[qal (show nx<ar.length by omega),qdx];exact decide_eq_decide.2 (by omega)),trivial⟩,rfl⟩
      .intro hA;replace hA:=AW hA;refine Ag U (Ag U (Ag U (AK U (.bool _) U (qA ?_))));exact⟨(),rfl,⟨qab Value.bool (by rw[qag (show ¬nx<ar.length by omega)];rfl),trivial⟩,rfl⟩
     .rintro - j74 w hw;rw[hw];clear hw;refine EZ 38647847295805176428896320 (α:=Nat × Dev) (fun s=>[(13,.int .i64 (s.1:Int))]) (fun s w'=>s.1<=ar.length/\Lv w25 w' p1 s.2 F2 N (1+3*i) L/\Rp9 w' (Ms F2 p1) N br L) U ?_ ?_
      .skip
       refine Au _ U ?_ ?_
       .intro hC;simp only[qao,qap]at hC;obtain⟨u,hu⟩:=AO (l:=ar) (i:=nx) (h:=hC.1);have hul:=u.toNat_lt;refine Aq (Ad (Am U (Aj U (Ae U (AY Ra AX CT U U (hn:=by rfl) ?_)))));refine Be QA U (((Ra.ext0 hE).one (f:=bv) hu)) (Ej U GR Ge ?_);refine Ai qB (Wi O.bs.1 _) U ?_;rw[show Ni A0=0 from by unfold Ni;rw[O.on];rfl];rintro v w81 ⟨rfl,D2,G2⟩;refine Ba U U (qA (Bz U (Ap (Aa (Av (Ae U (A7 U U ?_)))))));refine Ac U (qA ?_);exact⟨(nx+1,_),rfl,⟨rfl,trivial⟩,hC.1,O.arm _ D2 G2,hr.turn (ms_of G2) hn⟩
       .intro hC;refine Ap (Aa ?_);exact⟨(nx,A0),rfl,⟨rfl,trivial⟩,hnx,O,hr⟩
      .clear O hr;rintro⟨nx,A1⟩ j13 w ⟨hnx,O,hr⟩;dsimp only at hnx O hr;dsimp only;have hE:=hx25.trans O.bs.1.ext;obtain⟨w2,rfl,H⟩:=qE w;obtain⟨ra,rc,hr1,hr2⟩:=hr;refine Ad (Aj U (Ae U (AY R Qj Ql U U (hn:=by rfl) ?_)));refine EY _ ag_42 Ql U U ((R.ext0 hE).row hx1 U) (Bj zc_42 H ?_);rintro b15 w - H;refine Bo Ql U U U (by exact Af6 x) H at0 U ?_;rintro w H;refine qA ?_;have hs18:=H.ext.to hr1 (by simp);refine BR [([0,1,2,3,4,5,6,7,8],9),([],10)] (fun z=>z.heap[br]?=some (Bl TRf [.slice ra L.length rc,.int .i64 (Cu N)])) [] mixed ((H.drew.ext.to hr1 (by simp))) (AC U U ?_);refine Cs U (Bg U (AD Md U (BG JJ U (fun _ hx=>(by rw[Ar hx];rfl)) ?_)));refine Cs U (Bg U (AD Abu U (BG DW U (fun _ hx=>(by rw[Ar hx];rfl)) ?_)))
       refine ED [.slice ra L.length rc,.int .i64 (Cu N)] Aob Aof (AU ?_);replace H:=H.drew;refine Cn [.slice ra L.length rc,.int .i64 (Cu N)] (.agg _) U U H ?_;rintro bb w18 - H;refine Ab (Bc ((H.ext.to hr1 (by simp))) ?_);refine AC U U (AU (Bx U (Ab (Bc ((H.ext.to hr1 (by simp))) ?_))));refine B1 (Ad (Ac U (qA (Aq ?_))));have hbb:=(H.own _ (qad (i:=0) rfl)).resolve_left (by simp);have hb15:=(H.own _ (qad (i:=1) rfl)).resolve_left (by simp);dsimp only at hbb hb15;have f18:=Rf9.two (bb:=bb) hr1 hr2 hn O.lt H.ext hbb (H.get at0);have P:Pc w25 w18 (p1.zone w2 w18) A1 F2 N (1+3*i) br bb L L L:=⟨O.zone H.ext,⟨.inl hz,.inr ⟨hbb,Al (H.get at0)⟩⟩,⟨hg,qav O.bs.1.ext.size hbb⟩,f18⟩;have hm15:¬Ms F2 p1 b15:=fun h=>by have:=O.lt _ h;omega
       have h15:=H.get at1;refine Ad (Af Alq U (AH DW U H at1 U (B6 U U (qA (EZ 664608927290057023534297543327481920 (α:=Int) (fun e=>[(17,.int .i64 e)]) (fun e w'=>Jn w25 (p1.zone w2 w18) N (1+3*i+2) br bb b15 (Bl 42 (Q6 x)) L e w') U ?_ ?_)))))
       .skip
        refine Au _ U ?_ ?_
        .intro hD;replace hD:=AV hD;refine Av (Am U (Ai qB (Aa0 P.O) U ?_));rintro v w103 h103;obtain⟨e,rfl,hJ⟩:=Ak6 P h15 hm15 h103;refine Ac U (qA ?_);exact⟨e,rfl,⟨rfl,trivial⟩,hJ⟩
        .intro hD;replace hD:=AW hD;have hEx:=hE.trans H.ext;have hne15:b15≠br:=fun h=>by have:=Al hr1;omega
         refine Ad (Am U (Af Me U (AH U8 U H at1 U (Ai qB (Ak0 (hxi.l.call hEx) hlw) U ?_))));rintro v w107 ⟨a2,c2,f2,ms2,rfl,Hc,Oc,hmc,hokc⟩;have ow:=Ang Hc Oc hmc hokc;have P2:=P.call Hc.ext;refine Ai qB (YO P2.O a2 _ c2 x.L (ow.wrs.weak fun y hy => .inl (P.O.lt y hy))) U ?_;rintro v w108 h108;obtain⟨e,rfl,hJ⟩:=Agb P2 (Hc.ext.to h15 (by simp)) hm15 h108;clear h108;have he:e=C8 N L x.L\/e=8:=hJ.2.imp (fun h=>h.1) (fun h=>h.1);obtain⟨hE9,M9,f9,hM9,hfin⟩:=hJ.ref O.nums.2.2.2.2.2.2 O.nums.2.2.1;obtain⟨ra9,rc9,hr91,hr92⟩:=f9.r;have H:=Ctx.start1 hJ.1;refine Ac U (qA (Ad (BE (α:=Unit) 663964960785141082998337218099019776 (fun _=>[(118,.bool (false))]) (fun _ w'=>Jn w25 (p1.zone w2 w18) N (1+3*i+2) br bb b15 (Bl 42 (Q6 x)) L e w') U ?_ ?_)))
         .refine Am U (Af Me U (AH U8 U H at0 U (Ai qB (Aa5 (M:=fun y=>M9 y\/y=br\/y=bb) hr91 (.inr (.inl U)) hr92 (hxi.l.call (hx25.trans hE9)) (fun y hy=>hy.elim (hM9 y) fun h=>h.elim (fun h=>h ▸ f9.lt.1) fun h=>h ▸ f9.lt.2) O.nums.2.2.2.2.2.1 O.nums.2.2.2.2.2.2 (fun y hy=>(hlw y hy).1) (by have:=O.nums.2.2.1;omega)) U ?_)));rintro v w112 ⟨rfl,ra5,rc5,hp5,hb5,hx5⟩;have hJ5:=hfin _ _ _ hx5 hne15 hb5 hp5;refine Ae U (Ba U U (AA U (AR 115 U ?_ ?_)))
          .intro h1;replace h1:=Bu h1;refine Ae U (Ba U U (AN U (.bool _) U (Ab ?_)));exact⟨rfl,(),rfl,⟨qab Value.bool (by rcases he with h|h <;> simp_all),trivial⟩,hJ5⟩
          .intro h2;replace h2:=Bv h2;refine Ag U (Ag U (AK U (.bool _) U (Ab ?_)));exact⟨rfl,(),rfl,⟨qab Value.bool (by rcases he with h|h <;> simp_all),trivial⟩,hJ5⟩
         rintro - j118 w hJ5;refine Bz U (Ap (Aa ?_));exact⟨e,rfl,⟨rfl,trivial⟩,hJ5⟩
       .clear P f18 H h15 hr1 hr2 hm15 hs18;rintro e j17 w ⟨h15,hJ⟩;obtain⟨w3,rfl⟩:=qD w
        rcases hJ with⟨hne8,A3,F3,L3,P,hm15⟩|⟨rfl,A3,F3,L3,D,hm15,⟨ho3,hn3⟩,hbk⟩
        .skip
         refine Aq (Ad (Am U (Ai qB (PM P.O.bs.1) U ?_)));rw[P.O.on];rintro v w120 ⟨rfl,h120⟩;rw[h120]at P;refine qA (EA U (Aq (Ad (Ae U (B6 U U ?_)))));rw[qag hne8];refine qA (Bz U (Ap (Aa (B3 (Ay (Bb (Aa (Av (Ae U (A7 U U ?_))))))))));refine Ac U (qA ?_);exact⟨(i+1,nx,p1.bs,br),rfl,⟨rfl,rfl,rfl,rfl,trivial⟩,⟨by dsimp only;omega,hnx,p1.zone w2 w18,A3,F3,L3,rfl,rfl,P.O.mono (by dsimp only;omega),P.z.1,P.g.1,P.f.nr,P.f.one⟩,by dsimp only;omega⟩
        .skip
         refine Aq (Ad (Am U (Ai qB (PM D.D.own) U ?_)));rw[D.D.off];rintro v w120 ⟨rfl,h120⟩;rw[h120]at D h15;refine qA (Bz U (Ap (Aa (Ad (Am U (Ai qB (Af1 D.D none none 0 0 0 0) U ?_))))));rintro v w125 ⟨rfl,h125⟩;rw[h125]at D h15;refine AQ U (Ah U U (Ah U U (Ak U (Ac U (qA (Aq (Ad (Ae U (Ba U U ?_)))))))));refine AA U (Ae U (Ba U U (AK U (.bool _) U (AA U (Am U (Ai qB (YS D.D none 0 0) U ?_))))));rintro v w136 ⟨rfl,h136⟩;rw[h136]at D h15;refine Ba U U (AK U (.bool _) U (AA U (Am U (Ai qB (Aa2 D.D) U ?_))));rintro v w141 ⟨rfl,hx141⟩;replace D:=D.call hx141;replace h15:=hx141.to h15 (by simp);refine Ba U U (AK U (.bool _) U (AA U (Am U (Ai qB (Aa3 D.D) U ?_))));rintro v w146 ⟨rfl,h146⟩;rw[h146]at D h15;refine Ba U U (AK U (.bool _) U (qA (Bz U (Ap (Aa ?_)))));have hE5:=hx25.trans D.D.own.ext
         have hxp:=hxi.pl;have hl3:∀q∈L3,q.1.length<=1000/\q.2.length<=1000:=fun q hq=>by have:=ho3 q hq;omega
         have hlL:∀q∈L,q.1.length<=1000/\q.2.length<=1000:=fun q hq=>by have:=O.nums.2.2.2.2.2.2 q hq;omega
         have hnL:=O.nums.2.2.1;obtain⟨L1,hL1,hB1⟩:∃L1,(L1=L\/L1=L3)/\Bk N (1+3*i+2) L1 (onD A3 x.P):=(hbk x.P).elim (fun h=>⟨L,.inl rfl,h⟩) fun h=>⟨L3,.inr rfl,h⟩;have hFin:∀(tw:Bool),(tw=true->nx<ar.length)->_:=fun tw htw=>YT (pc:=x.pc) (ac:=ac) D.D.own D.D.off D.D.few hB1 (hxi.p.ext0 hE5) ⟨by omega,hxp.2⟩ ((Pq (hxi.p.ext0 hx25) (fun _ _=>rfl)).imp id fun h h5=>by have:=(D.D.own.own _ h5).1;omega) hxi.pi tw (⟨Ra.ext0 hE5,(Rd.lt8 (Ra.ext0 hx25)).imp id fun h h5=>by have:=(D.D.own.own _ h5).1;omega⟩:Rdx _ F3 aa ar) htw;refine OU 93535391165331433785095300150857388510411494522880 (α:=Sp × Dev) (fun s=>[(20,ptr s.1.bs),(21,.bool true)]) (fun s w'=>s.1.bd=p1.bd/\Pc w25 w' s.1 s.2 F3 N (1+3*i+2) br bb L1 L3 L) U ?_ ?_
         .skip
          have H:True:=trivial;refine Av (Am U (Af Abv U (Be IJ U ((by rw[Ar h15];rfl)) ?_)));refine Ae U (Aj U (AP AX U (Bn U U (AA U (AR 157 U ?_ ?_)))))
          .intro hM;replace hM:=AV hM;refine Af Alr U (Be Gf U ((by rw[Ar h15];rfl)) ?_);refine AN U (.bool _) U (Aj U (Ae U (Ai qB (hFin _ (fun h=>by omega)) U ?_)));rintro v w163 ⟨p4,A4,rfl,hp4,O4,G4,hms4,hz4⟩;refine AQ U (Ah U U (Ah U U (Bx U (An U (qA ?_)))));exact⟨(p4,A4),rfl,⟨rfl,rfl,trivial⟩,hp4,D.opened O4 G4 hms4 hz4⟩
          .intro hM;replace hM:=AW hM;refine Ag U (Ag U (AK U (.bool _) U (Aj U (Ae U (Ai qB (hFin _ (fun h=>by cases h)) U ?_)))));rintro v w163 ⟨p4,A4,rfl,hp4,O4,G4,hms4,hz4⟩;refine AQ U (Ah U U (Ah U U (Bx U (An U (qA ?_)))));exact⟨(p4,A4),rfl,⟨rfl,rfl,trivial⟩,hp4,D.opened O4 G4 hms4 hz4⟩
         .rintro⟨p4,A4⟩ j31 w ⟨hp4,P⟩;dsimp only at hp4 P;dsimp only;have hnum:=P.O.nums;have hok:=hnum.2.2.2.2.2.2;have hl1:∀q∈L1,q.1.length<=1000/\q.2.length<=1000:=fun q hq=>by have:=hok q hq;omega
          obtain⟨ra3,rc3,hr3,hr4⟩:=P.f.r;obtain⟨sa3,sc3,hs3,hs4⟩:=P.f.s;obtain⟨w4,rfl⟩:=qD w;refine Aq (Ad (BE (α:=Unit) 1532402004761099680571581991321015341505481142500851712 (fun _=>[(179,.bool (false))]) (fun _ w'=>Ext [] w4 w') U ?_ ?_))
          .refine AA U (BX U (AA U (Am U (Am U (Ai qB (LN P.O hr3 hr4 hl3) U ?_)))));rintro v w171 ⟨rfl,hx171⟩;refine BX U (AA U (AR 173 U ?_ ?_))
           .intro h3;replace h3:=Cz h3;refine Am U (Am U (Ai qB (LN (P.O.call hx171) (hx171.to hs3 (by simp)) (Kc hs4 hx171) hlL) U ?_));rintro v w176 ⟨rfl,hx176⟩;refine BX U (AN U (.bool _) U (AK U (.bool _) U (Ab ?_)));exact⟨rfl,(),rfl,⟨qab Value.bool (by rcases hL1 with h|h <;> simp_all),trivial⟩,by exact hx171.trans hx176⟩
           .intro h4;replace h4:=C0 h4;refine Ag U (Ag U (Ag U (Ag U (AK U (.bool _) U (AK U (.bool _) U (Ab ?_))))));exact⟨rfl,(),rfl,⟨qab Value.bool (by rcases hL1 with h|h <;> simp_all),trivial⟩,by exact hx171⟩
          rintro - j179 w hx179;replace P:=P.call hx179;replace hr3:=hx179.to hr3 (by simp);replace hr4:=Kc hr4 hx179;refine Bz U (Ap (Aa (Aq (Ad (Am U (Am U (Ai qB (LN P.O hr3 hr4 hl3) U ?_)))))));rintro v w182 ⟨rfl,hx182⟩;replace P:=P.call hx182;refine BX U (qA ?_);obtain⟨w5,rfl⟩:=qD w182;refine EZ 24519928653854221733733552434404946937899825954937638912 (α:=Nat × Nat) (fun s=>[(12,ptr s.1)]) (fun s w'=>w'=w5/\∃B,Pc w25 w5 p4 A4 F3 N (1+3*i+2) s.1 s.2 L1 L1 B) U ?_ ?_
          .skip
           refine Au _ U ?_ ?_
           .intro hM;replace hM:=Cz hM;have hM':¬L1=L3:=by simpa using hM
            obtain rfl:L1=L:=hL1.resolve_right hM';refine Av (Am U (Bx U (qA ?_)));exact⟨(bb,br),rfl,⟨rfl,trivial⟩,rfl,L3,P.swap⟩
           .intro hM;replace hM:=C0 hM;obtain rfl:L1=L3:=by simpa using hM
            refine Ap (Aa ?_);exact⟨(br,bb),rfl,⟨rfl,trivial⟩,rfl,L,P⟩
          .rintro⟨br5,bb5⟩ j183 w ⟨hw,B5,P5⟩;dsimp only at P5;dsimp only;rw[hw];clear hw;refine Ad (Am U (Ai qB (PJ (hp4 ▸ P5.O.bs.1) P5.O.bs.2 (by omega)) U ?_));rintro v w187 ⟨p6,rfl,hp6,O6,hx6,hms6,hz6⟩;have P6:=P5.opened O6 hx6 hms6 hz6;obtain⟨ra6,rc6,hr6,hr7⟩:=P6.f.r;refine AQ U (Ah U U (Ah U U (Bx U (Ac U (qA (Aq (Ad (Ae U (Ba U U ?_)))))))));refine AA U (Am U (BW Ss U ?_));refine AK U (.bool _) U (AA U (Am U (Am U (Ai qB (LN P6.O hr6 hr7 hl1) U ?_))));rw[qal (rfl:L1=L1)];rintro v w199 ⟨rfl,hx199⟩;replace P6:=P6.call hx199;refine BX U (AK U (.bool _) U (qA (Bz U (Ap (Aa (Av (Am U (Bx U (Ab (AF (Aa (Av ?_))))))))))));refine Ae U (A7 U U ?_);refine Ac U (qA ?_)
           exact⟨(i+1,nx,p6.bs,br5),rfl,⟨rfl,rfl,rfl,rfl,trivial⟩,⟨by dsimp only;omega,hnx,p6,A4,F3,L1,rfl,hp6,P6.O.mono (by dsimp only;omega),P6.z.1,P6.g.1,P6.f.nr,P6.f.one⟩,by dsimp only;omega⟩
    .intro hB;replace hB:=AW hB;obtain⟨rca,rcc,hr1,hr2⟩:=hr;have hnum:=O.nums;have hok:=hnum.2.2.2.2.2.2;have hkl:∀q∈L,q.1.length<=1000/\q.2.length<=1000:=fun q hq=>by have:=hok q hq;omega
     refine B3 (Ay (Ay (Bb (Aa (Ad (Am U (Am U (Ai qB (LN O hr1 hr2 hkl) U ?_))))))));rw[qal (rfl:L=L)];rintro v w205 ⟨rfl,hx205⟩;replace O:=O.call hx205;refine AA U (Ai qB (PN _) U ?_);rintro v w207 ⟨rfl,hx207⟩;replace O:=O.call hx207;refine AN U (.bool _) U (An U (qA (Ax (AG (v:=(.bool _)) U U U ?_))));exact⟨rfl,hx25.trans O.bs.1.ext⟩
end Go.Proofs.YtcpgbcabmcbclaaGreatDoor
namespace Go.Proofs.YtcpgbcabmcbclaaGreatDoor.storeCrash
open Go.GV Go.Proofs.Tryz Go.ChangeShapes Go.WideShapes Go.ChangeAt Go.RowKit
theorem Ak7(os:Os):laidMet prog Rows.storeCrashRow.laid ((laidWorld os).forCall (fun _ _=>0) ⟨#[],#[.int .u16 0,.slice none 0 0,.slice none 0 0],[]⟩).memory :=
 laidMet_of_run' 8 (by kernel_rfl) (by kernel_rfl)
theorem reads(os:Os){H:Type}(enc:TypeId × Value->H):∃ds places,DataW.whole enc prog ((laidWorld os).forCall (fun _ _=>0) ⟨#[],#[.int .u16 0,.slice none 0 0,.slice none 0 0],[]⟩).memory Tryz.f6.params.toList Rows.storeCrashSpec.vars false (#[.int .u16 0,.slice none 0 0,.slice none 0 0]:Array Value).toList 8=some (ds,[],places) :=
 ⟨[.lit (.int .u16 0),.nil,.nil],[],by kernel_rfl⟩
set_option maxRecDepth 100000 in
theorem Aqk(os:Os)(started:os.Started)(H:Type)(enc:TypeId × Value->H)(F:Stop.Interp) :
  ReturnsInHanded {} checked os 6 .any ((OpenSpec.ofChange Rows.storeCrashSpec).preRow enc prog f6 Rows.storeCrashRow.domain false Rows.storeCrashRow.laid) (((OpenSpec.ofChange Rows.storeCrashSpec).at F).post enc prog f6 false true false false):=by
 obtain⟨ds,places,hx⟩:=reads os enc
 refine returnsInHanded_of_row (C:=checked) (s:=OpenSpec.ofChange Rows.storeCrashSpec) own started (by kernel_rfl) func6
  (witness_row_at (enc:=enc) (C:=checked) false (laidWorld os) #[.int .u16 0,.slice none 0 0,.slice none 0 0] rfl (by kernel_rfl) (by kernel_rfl) (by kernel_rfl)
   (OpenSpec.preRow_of_cond 8 hx (by kernel_rfl) (fun k hk=>by cases hk) (by kernel_rfl) (Ak7 os))) ?_
 intro W base args ds gs before hval0 hW _ _ hLt _ _ _;have hval:∀(j:Nat) t v,Tryz.f6.params[j]?=some t->args[j]?=some v->Value.okWide prog W .any base t v:=hval0;have hW':=hW;obtain⟨p,q,hA0,hV,rfl,hfz,hnd⟩:=hW;have hA:DataW.TrodAll enc prog W 0 (fun _=>true) true Tryz.f6.params.toList args.toList ds p:=hA0;rw[params6]at hA hval;obtain⟨v0,vs0,d0,ds0,p0,q0,hargs,rfl,rfl,h0,r0⟩:=trodAll_cons hA;obtain⟨v1,vs1,d1,ds1,p1,q1,rfl,rfl,rfl,h1,r1⟩:=trodAll_cons r0;obtain⟨v2,vs2,d2,ds2,p2,q2,rfl,rfl,rfl,h2,r2⟩:=trodAll_cons r1;obtain⟨rfl,rfl,rfl⟩:=trodAll_nil r2;obtain rfl:args=#[v0,v1,v2]:=by cases args;simp_all
 obtain⟨k0,rfl,rfl,rfl,hg0⟩:=open_int underlying22 (hval 0 _ v0 rfl rfl) h0;obtain⟨n0,rfl,hb0⟩:=Aqj (m:=65535) (Ma hg0).1 (Ma hg0).2;have hL1:Light prog 23 d1:=Xb hLt (i:=1) rfl rfl;obtain⟨a1,c1,l1,rfl,R1,hc1,hm1,hw1,H1⟩:=Xc underlying23 Zd Ank (okWide_slice underlying23 (hval 1 _ v1 rfl rfl)) h1 hL1;unfold maxLen at hm1;have hL2:Light prog 24 d2:=Xb hLt (i:=2) rfl rfl;obtain⟨a2,c2,l2,rfl,R2,hc2,_,hw2,_⟩:=Xc underlying24 PP (fun n cs y h _=>TY n cs y h) (okWide_slice underlying24 (hval 2 _ v2 rfl rfl)) h2 hL2;rw[VB]at hw2;unfold reachBytes at hw2;refine(Uh n0 hb0 W R1 H1 (LO hw1 Ak4) R2).calls.mono ?_;rintro e W' ⟨v,rfl,rfl,hx⟩;exact⟨_,rfl,Ag1 Anj U U underlying4 (fun ds h=>match ds,h with | [_,_,_],_=>rfl) hW' hx⟩
theorem said:Rows.StoreCrashSaid :=
 OpenClaim.holds_of_cond 6 f6 rfl rfl rfl rfl rfl rfl rfl ⟨rfl,rfl,rfl,rfl,rfl⟩ rfl rfl rfl rfl rfl (by kernel_rfl) func6 (by kernel_rfl)
  (qb5 (by kernel_rfl)) (by unfold Func.isWrapper;(rw[if_neg (by decide +kernel)];exact⟨rfl,rfl⟩))
  (fun os started H enc _ F=>by rw[OpenClaim.pre_eq_preRow];exact Aqk os started H enc F)
theorem plain(f:FuncId)(fn:Func)(hf:Tryz.pinned.checked.prog.funcNamed "gablet/gabletlaw09.StoreCrash" = some f)(hfn:Tryz.pinned.checked.prog.funcs[f]?=some fn) :
  false=Tryz.pinned.checked.prog.looks []/\∀(j:Nat) t,fn.params[j]?=some t->Tryz.pinned.checked.prog.wantsStandIn t=false:=by
 obtain rfl:f=6:=qbw ((show Tryz.prog.funcNamed "gablet/gabletlaw09.StoreCrash" = some 6 by kernel_rfl).symm.trans hf) |>.symm
 obtain rfl:fn=f6:=(qbw (Tryz.func6.symm.trans hfn)).symm;refine⟨by kernel_rfl,fun j t ht=>?_⟩;rw[params6]at ht;have hm:=Array.mem_of_getElem? ht
 exact qb0.1 (show(Tryz.f6.params.toList.all fun t => !Tryz.prog.wantsStandIn t)=true by kernel_rfl) t (by rw[params6];simpa using hm) |> fun h=>(qd6 _).mp h
theorem card:Rows.StoreCrashCardSaid :=
 Claim7.holds_tied_plain_at .later [] _ _ _ _ said (fun _ h=>by cases h) (by kernel_rfl) (fun _ h=>by cases h) storeCrash_row_tie rfl ⟨rfl,rfl⟩ (by kernel_rfl) rfl plain (by kernel_rfl)
end Go.Proofs.YtcpgbcabmcbclaaGreatDoor.storeCrash
namespace Go.Proofs.YtcpgbcabmcbclaaGreatDoor
theorem storeCrash_holds:Rows.StoreCrashCardSaid:=storeCrash.card
#print axioms storeCrash_holds
end Go.Proofs.YtcpgbcabmcbclaaGreatDoor
