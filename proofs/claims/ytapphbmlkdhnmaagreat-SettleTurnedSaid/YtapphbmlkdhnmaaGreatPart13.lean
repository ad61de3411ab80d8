/- Part 13 of the proof. -/
import Derived.Test.YtapphbmlkdhnmaaGreatPart2
import Derived.Test.YtapphbmlkdhnmaaGreatPart12
import Derived.Test.YtapphbmlkdhnmaaGreatPart3
import Derived.Test.YtapphbmlkdhnmaaGreatPart11
import Derived.Test.YtapphbmlkdhnmaaGreatRows
/- Plans and rounds among what else one holds; the chapter's example. -/
namespace Go.Proofs.YtapphbmlkdhnmaaGreat
open Go.GV
attribute [local irreducible] AL W Wq Wt

theorem Ab8 {α:Type} (A B C:α) (E:List α):([A,B]++(C::E)).Perm (C::A::B::E):=by
 classical exact List.perm_iff_count.2 fun x=>by simp only [List.count_append,List.count_cons,List.count_nil]; omega
theorem SW {α:Type} (B L R:List α):(B++(L++R)).Perm (L++(B++R)):=by
 classical exact List.perm_iff_count.2 fun x=>by simp only [List.count_append]; omega
theorem Ctx.mid {w0 w w':World} {S:List Nat} {B L L' R:List (Nat × Obj)} (H:Ctx w0 S w (B++(L++R))) (H':Ctx w (L.map (·.1)) w' L'):Ctx w0 S w' (B++(L'++R)) :=
 (Ctx.back (H.perm (SW B L R)) H').perm (SW B L' R).symm
theorem Ctx.in' {w0 w:World} {S:List Nat} {B L R:List (Nat × Obj)} (H:Ctx w0 S w (B++(L++R))):Ctx w (L.map (·.1)) w L:=Ctx.lend (H.perm (SW B L R))
theorem LX.ac {bx:Nat} {a:Option Addr} {c:Nat} {full:List Value} {bd b:Nat} {nx:Int} {o:Obj} {acs:List Ac} {w0 w:World} {S:List Nat} (H:Ctx w0 S w (LX bx a acs.length c full bd b nx o)) (O:OS a acs.length c 2 full (acs.flatMap CB)):AcAt w 116 bx acs :=
 ⟨a,c,H.get at0,OS.rd O (fun x hx=>H.blk x (List.mem_cons_of_mem _ (List.mem_cons_of_mem _ (List.mem_cons_of_mem _ hx)))) (fun _ _=>rfl) (by decide)⟩
theorem LX.du {bx:Nat} {a:Option Addr} {n c:Nat} {full:List Value} {bd b:Nat} {nx:Int} {o:Obj} {ds:List Du} {w0 w:World} {S:List Nat} (H:Ctx w0 S w (LX bx a n c full bd b nx o)) (hM:D8 .u64 (dm ds) o):DuAt w bd ds :=
 ⟨b,nx,o,H.get at1,H.get at2,hM⟩
theorem RX.ac {ba:Nat} {a:Option Addr} {c:Nat} {full:List Value} {br:Nat} {ad:Option Addr} {m cd:Nat} {nx:Int} {fd:List Value} {acs:List Ac} {w0 w:World} {S:List Nat} (H:Ctx w0 S w (RX ba a acs.length c full br ad m cd nx fd)) (O:OS a acs.length c 2 full (acs.flatMap CB)):AcAt w 52 ba acs :=
 ⟨a,c,H.get at0,OS.rd O (fun x hx=>H.blk x (List.mem_cons_of_mem _ (List.mem_cons_of_mem _ (List.mem_append_right _ hx)))) (fun _ _=>rfl) (by decide)⟩
theorem RX.du {ba:Nat} {a:Option Addr} {n c:Nat} {full:List Value} {br:Nat} {ad:Option Addr} {cd:Nat} {nx:Int} {fd:List Value} {ds:List Du} {w0 w:World} {S:List Nat} (H:Ctx w0 S w (RX ba a n c full br ad ds.length cd nx fd)) (O:OS ad ds.length cd 7 fd (ds.flatMap Cf)):RdAt w br ds :=
 ⟨ad,cd,nx,H.get at1,OS.rd O (fun x hx=>H.blk x (List.mem_cons_of_mem _ (List.mem_cons_of_mem _ (List.mem_append_left _ hx)))) (fun _ _=>rfl) (by decide)⟩
theorem ROff.old {w0 w:World} {S:List Nat} {L:List (Nat × Obj)} {q:RSl} {r:Rnd} (H:Ctx w0 S w L) (h:ROff q r (fun x=>x<w.heap.size)):ROff q r (·∈L.map (·.1)) :=
 h.mono fun x hx=>by
  obtain ⟨y,hy,rfl⟩:=List.mem_map.1 hx
  exact Bp (H.blk y hy)
/-- Limits of a round that is held. -/
structure RBnd (r:Rnd):Prop where
 N:I64 r.N
 es:r.es.length≤1000000
 ids:r.ids.length≤1000000
 fl:r.fl.length≤1000000
 pot:r.pot.length≤1000000
theorem Jt {acs:List Ac} {ds:List Du} {net:Bool} {r:Rnd} (P:PlanR acs ds net r):RBnd r:=by
 obtain ⟨h1,h2,-⟩:=JG.1 P.chk
 obtain ⟨g1,g2,g3,-⟩:=Cn (BZ (Gj h1).1).2.1
 have g4:=(BZ (Gj h1).1).1
 have g5:=(Lj h2).1
 refine ⟨⟨by omega,by omega⟩,by omega,?_,by omega,by omega⟩
 rw [P.ids,List.length_map]
 have:(opn ds).length≤r.es.length:=by rw [P.es,Fc]; omega
 omega
/-- A plan of accounts and dues that make a round. -/
theorem Ij {bx bd b c:Nat} {a:Option Addr} {full:List Value} {o:Obj} {acs:List Ac} {ds:List Du} {nx:Int} {w w0:World} {S:List Nat} {B R:List (Nat × Obj)} (ha:DB acs=0) (hd:ofC ds nx=0) (hb:CD (acs.map Ce) ds=true) (net:Bool) (H:Ctx w0 S w (B++(LX bx a acs.length c full bd b nx o++R))) (O:OS a acs.length c 2 full (acs.flatMap CB)) (hM:D8 .u64 (dm ds) o) :
  Ret Tryz.prog 12 #[ptr bx,ptr bd,.bool net] w fun v w'=>∃ r q,v = .tuple #[.agg (Br r q).toArray,.int .i64 0]∧PlanR acs ds net r∧RAt w' r q∧ROff q r (·∈(B++(LX bx a acs.length c full bd b nx o++R)).map (·.1))∧Ext [] w w'∧Ctx w0 S w' (B++(LX bx a acs.length c full bd b nx o++R)):=by
 refine Ret.mono (TT ha hd net w (LX.ac (Ctx.in' H) O) (LX.du (Ctx.in' H) hM)) fun v w' h=>?_
 obtain ⟨hx,⟨h1,-⟩ | ⟨-,r,q,h2,P,RA,hoff⟩⟩:=h
 ·rw [hb] at h1; cases h1
 ·exact ⟨r,q,h2,P,RA,ROff.old H hoff,hx,H.call hx⟩
/-- A plan, or none. -/
theorem OO {bx bd b c:Nat} {a:Option Addr} {full:List Value} {o:Obj} {acs:List Ac} {ds:List Du} {nx:Int} {w w0:World} {S:List Nat} {B R:List (Nat × Obj)} (ha:DB acs=0) (hd:ofC ds nx=0) (net:Bool) (H:Ctx w0 S w (B++(LX bx a acs.length c full bd b nx o++R))) (O:OS a acs.length c 2 full (acs.flatMap CB)) (hM:D8 .u64 (dm ds) o) :
  Ret Tryz.prog 12 #[ptr bx,ptr bd,.bool net] w fun v w'=>∃ r q code,v = .tuple #[.agg (Br r q).toArray,.int .i64 code] ∧
   ((CD (acs.map Ce) ds=false∧code=1)∨(CD (acs.map Ce) ds=true∧code=0∧PlanR acs ds net r∧RAt w' r q∧ROff q r (·∈(B++(LX bx a acs.length c full bd b nx o++R)).map (fun x:Nat × Obj=>x.1))))∧Ext [] w w':=by
 refine Ret.mono (TT ha hd net w (LX.ac (Ctx.in' H) O) (LX.du (Ctx.in' H) hM)) fun v w' h=>?_
 obtain ⟨hx,⟨h1,rfl⟩ | ⟨h1,r,q,h2,P,RA,hoff⟩⟩:=h
 ·exact ⟨⟨0,0,false,[],0,[],[],[]⟩,⟨none,0,none,0,none,0,none,0⟩,1,rfl,.inl ⟨h1,rfl⟩,hx⟩
 ·exact ⟨r,q,0,h2,.inr ⟨h1,rfl,P,RA,ROff.old H hoff⟩,hx⟩
theorem Ik {bx bd b c:Nat} {a:Option Addr} {full:List Value} {o:Obj} {acs:List Ac} {ds:List Du} {nx:Int} {r:Rnd} {q:RSl} {w w0:World} {S:List Nat} {B R:List (Nat × Obj)} (ha:DB acs=0) (hd:ofC ds nx=0) (H:Ctx w0 S w (B++(LX bx a acs.length c full bd b nx o++R))) (O:OS a acs.length c 2 full (acs.flatMap CB)) (hM:D8 .u64 (dm ds) o) (RA:RAt w r q) (hoff:ROff q r (·∈(LX bx a acs.length c full bd b nx o).map (·.1))) (hr:RBnd r) :
  Ret Tryz.prog 21 #[ptr bx,ptr bd,.agg (Br r q).toArray] w fun v w'=>v = .int .i64 (De acs ds r)∧∃ full' o',OS a acs.length c 2 full' ((DY acs ds r).flatMap CB)∧D8 .u64 (dm (Dz acs ds r)) o' ∧
   Ext ((LX bx a acs.length c full bd b nx o).map (·.1)) w w'∧Ctx w0 S w' (B++(LX bx a acs.length c full' bd b nx o'++R)):=by
 refine Ret.mono (Xw ha hd w (Ctx.in' H) O hM RA hoff hr.N hr.es hr.ids hr.fl hr.pot) fun v w' h=>?_
 obtain ⟨h1,full',o',O',hM',H'⟩:=h
 exact ⟨h1,full',o',O',hM',H'.ext,Ctx.mid H H'⟩
theorem PJ {ba br:Nat} {a ad:Option Addr} {c cd:Nat} {full fd:List Value} {acs:List Ac} {ds:List Du} {nx:Int} {r:Rnd} {q:RSl} {w w0:World} {S:List Nat} {B R:List (Nat × Obj)} (ha:DB acs=0) (hd:ofC ds nx=0) (H:Ctx w0 S w (B++(RX ba a acs.length c full br ad ds.length cd nx fd++R))) (O:OS a acs.length c 2 full (acs.flatMap CB)) (OD:OS ad ds.length cd 7 fd (ds.flatMap Cf)) (RA:RAt w r q) (hoff:ROff q r (·∈(RX ba a acs.length c full br ad ds.length cd nx fd).map (·.1))) (hr:RBnd r) :
  Ret Tryz.prog 22 #[ptr ba,ptr br,.agg (Br r q).toArray] w fun v w'=>v = .int .i64 (De acs ds r)∧∃ full' ad' cd' fd',OS a acs.length c 2 full' ((DY acs ds r).flatMap CB)∧OS ad' (Dz acs ds r).length cd' 7 fd' ((Dz acs ds r).flatMap Cf) ∧
   Ext ((RX ba a acs.length c full br ad ds.length cd nx fd).map (·.1)) w w'∧Ctx w0 S w' (B++(RX ba a acs.length c full' br ad' (Dz acs ds r).length cd' nx fd'++R)):=by
 refine Ret.mono (Rm ha hd w (Ctx.in' H) O OD RA hoff hr.es hr.ids hr.fl hr.pot) fun v w' h=>?_
 obtain ⟨h1,full',ad',cd',fd',O',OD',H'⟩:=h
 exact ⟨h1,full',ad',cd',fd',O',OD',H'.ext,Ctx.mid H H'⟩
theorem YO {a:Option Addr} {t:TypeId} {f g:List Value}:(ent a t f).map (·.1)=(ent a t g).map (·.1):=by cases a <;> rfl
theorem Xz {bx bd b n c:Nat} {a:Option Addr} {f g:List Value} {nx:Int} {o p:Obj}:(LX bx a n c f bd b nx o).map (·.1)=(LX bx a n c g bd b nx p).map (·.1):=by
 simp only [List.map_cons,YO (f:=f) (g:=g)]
/-! ### The example -/
abbrev xA0:List Ac:=[⟨5,0⟩,⟨0,0⟩]
abbrev xA1:List Ac:=[⟨0,0⟩,⟨5,0⟩]
abbrev xD0:List Du:=[⟨1,0,1,9,1,1,false⟩]
abbrev xD1:List Du:=[⟨1,0,1,4,1,1,false⟩]
abbrev xE0:List Ed:=[⟨0,1,9,-1⟩,⟨2,0,5,0⟩,⟨0,2,4503599627370496,0⟩,⟨2,1,0,0⟩,⟨1,2,4503599627370496,0⟩]
theorem xe0:BF (xA0.map Ce) (opn xD0) false=xE0:=by decide
theorem xa0:DB xA0=0:=by decide
theorem xa1:DB xA1=0:=by decide
theorem xd0:ofC xD0 2=0:=by decide
theorem xd1:ofC xD1 2=0:=by decide
theorem xb0:CD (xA0.map Ce) xD0=true:=by decide
theorem xb1:CD (xA1.map Ce) xD1=true:=by decide
theorem OP {l:List Int} (h:0<l.length):l.take 1=[flE l 0]:=by
 cases l with
 | nil=>exact absurd h (by decide)
 | cons x l=>rfl
theorem SX {r:Rnd} (P:PlanR xA0 xD0 false r):De xA0 xD0 r=0∧DY xA0 xD0 r=xA1∧Dz xA0 xD0 r=xD1:=by
 have hC:=Lt xb0 P
 have F:=E6 xa0 xd0 hC
 obtain ⟨p1,p2,p3,p4⟩:=Ea P
 have hes:=P.es.trans xe0
 have hN:r.N=3:=P.N
 have hcmp:=P.cmp
 have hlen:r.fl.length=5:=by rw [F.len,hes]; rfl
 have hg:=GY p1
 rw [hN,hes] at p3 p4 hg
 obtain ⟨x,hx⟩:∃ x,x=flE r.fl:=⟨_,rfl⟩
 rw [← hx] at p3 p4
 have o0:=p3 0 (by decide)
 have o1:=p3 1 (by decide)
 have i0:=p4.in' 0 (by decide)
 have i1:=p4.in' 1 (by decide)
 have i2:=p4.in' 2 (by decide)
 have i3:=p4.in' 3 (by decide)
 have hbest:=Fine.best hg p4 p3 (y:=fun i=>[5,5,0,0,5].getD i 0) (fun i hi=>by
  have hi':i<5:=hi
  match i,hi' with
  | 0,_=>decide
  | 1,_=>decide
  | 2,_=>decide
  | 3,_=>decide
  | 4,_=>decide) (fun v hv=>by
  have hv':v<3:=hv
  match v,hv' with
  | 0,_=>decide
  | 1,_=>decide
  | 2,_=>decide)
 have hc1:Gh (grE 3 xE0) (fun i=>[5,5,0,0,5].getD i 0) = -5:=by decide
 have hc2:Gh (grE 3 xE0) x = -(x 0):=by
  show 0+x 0 * -1+x 1*0+x 2*0+x 3*0+x 4*0=_
  omega
 have e0:BA (grE 3 xE0) x 0 = -(x 0)+x 1 - x 2:=by
  show 0+(0 - 1)*x 0+(1 - 0)*x 1+(0 - 1)*x 2+(0 - 0)*x 3+(0 - 0)*x 4=_
  omega
 have c1:Co xE0 1=5:=rfl
 have h5:x 0=5:=by
  rw [hc1,hc2] at hbest
  rw [e0] at o0
  rw [c1] at i1
  omega
 have hby:∀ k,byK (xA0.map Ce) (opn xD0) r.cmp r.fl k=(one (1=k) - one (0=k))*5:=fun k=>by
  have:byK (xA0.map Ce) (opn xD0) r.cmp r.fl k=0+(one (1=k) - one (0=k))*x 0:=by rw [hcmp,hx]; rfl
  rw [this,h5,Int.zero_add]
 refine ⟨hC,?_,?_⟩
 ·have hl:=(JH (r:=r) xa0 xd0).2.2
  refine List.ext_getElem? fun i=>?_
  match i with
  | 0=>rw [GC xa0 xd0 hC (k:=0) rfl,hby]; rfl
  | 1=>rw [GC xa0 xd0 hC (k:=1) rfl,hby]; rfl
  | i+2=>rw [List.getElem?_eq_none (by rw [hl]; simp),List.getElem?_eq_none (by simp)]
 ·unfold Dz
  rw [if_pos hC]
  show DW xD0 (r.fl.take 1)=_
  rw [OP (by omega),← hx,h5]
  rfl
theorem SY {r:Rnd} (P:PlanR xA1 xD1 true r):De xA1 xD1 r=0∧DY xA1 xD1 r=xA1∧Dz xA1 xD1 r=xD1:=by
 have hC:=Lt xb1 P
 have F:=E6 xa1 xd1 hC
 obtain ⟨p1,p2,p3,p4⟩:=Ea P
 have hes:r.es=[⟨0,1,4,-1⟩]:=P.es.trans (by decide)
 have hN:r.N=3:=P.N
 have hcmp:=P.cmp
 have hlen:r.fl.length=1:=by rw [F.len,hes]; rfl
 rw [hN,hes] at p3
 obtain ⟨x,hx⟩:∃ x,x=flE r.fl:=⟨_,rfl⟩
 rw [← hx] at p3
 have o0:=p3 0 (by decide)
 have e0:BA (grE 3 [⟨0,1,4,-1⟩]) x 0 = -(x 0):=by
  show 0+(0 - 1)*x 0=_
  omega
 have h5:x 0=0:=by rw [e0] at o0; omega
 have hby:∀ k,byK (xA1.map Ce) (opn xD1) r.cmp r.fl k=0:=fun k=>by
  have:byK (xA1.map Ce) (opn xD1) r.cmp r.fl k=0+(one (1=k) - one (0=k))*x 0:=by rw [hcmp,hx]; rfl
  rw [this,h5,Int.mul_zero]; rfl
 refine ⟨hC,?_,?_⟩
 ·have hl:=(JH (r:=r) xa1 xd1).2.2
  refine List.ext_getElem? fun i=>?_
  match i with
  | 0=>rw [GC xa1 xd1 hC (k:=0) rfl,hby]; rfl
  | 1=>rw [GC xa1 xd1 hC (k:=1) rfl,hby]; rfl
  | i+2=>rw [List.getElem?_eq_none (by rw [hl]; simp),List.getElem?_eq_none (by simp)]
 ·unfold Dz
  rw [if_pos hC]
  show DW xD1 (r.fl.take 1)=_
  rw [OP (by omega),← hx,h5]
  rfl
/-- The round is none of now any more. -/
theorem Ab9 {r:Rnd} (P:PlanR xA0 xD0 false r):De xA1 xD1 r=3:=by
 have h:IC xA1 xD1 r=false:=by
  unfold IC
  rw [P.cmp,P.es]
  have:decide (BF (xA1.map Ce) (opn xD1) false=BF (xA0.map Ce) (opn xD0) false)=false:=by decide
  rw [this]
  simp
 unfold De
 rw [P.chk,if_neg (by decide),if_pos h]
set_option maxRecDepth 20000 in
set_option maxHeartbeats 4000000 in
theorem DO (w:World):Ret Tryz.prog 10 #[] w fun v w'=>v = .bool true∧Ext [] w w':=by
 obtain ⟨w0,rfl⟩:∃ w0,w0=w:=⟨_,rfl⟩
 have H:=Ctx.start w0 []
 refine A9 (fn:=Tryz.f10) Tryz.func10 rfl [] rfl (by kernel_rfl) ?_
 refine Af (Ai rfl rfl (Ab (Aa (Af (CE [.int .i64 5,.int .i64 0] rfl VV Hr (by kernel_rfl) ?_)))))
 refine CE [.int .i64 0,.int .i64 0] rfl VV Hr (by kernel_rfl) ?_
 refine J0 [.int .i64 5,.int .i64 0,.int .i64 0,.int .i64 0] rfl CL Dc Hr (by decide) (by decide) (by kernel_rfl) H ?_
 rintro b18 w - H
 refine Am rfl Zd (WO _ 2 2 xA0 _ (Rd.of_bl (H.get at0) (r:=[]) rfl (fun _ _=>rfl)) rfl (by omega)) rfl ?_
 rintro v w ⟨p,rfl,-,hs,hx19⟩
 obtain ⟨bx,a,c,full,hp,i1,i2,i3,i4⟩:=hs xa0
 subst hp
 rw [xa0]
 replace H:=(H.callEnt (E:=(bx,Bl 116 [.slice a 2 c])::ent a 64 full) hx19 (fun x hx=>(List.mem_cons.1 hx).elim (fun h=>by subst h; exact ⟨i1,i4⟩) (fun h=>⟨(i3 x h).1,(i3 x h).2.1⟩)) (KP fun x hx=>(i3 x hx).2.2)).right
 refine B9 rfl rfl (A3 rfl rfl rfl (A3 rfl rfl rfl (AW rfl rfl (Ae rfl rfl (Ab (Aa (Af (Am rfl ca_51 (Y7 _) rfl ?_))))))))
 rintro v w ⟨bd,b,o,rfl,hM,F⟩
 replace H:=H.callEnt F.ext (fun x hx=>⟨F.blk x hx,(F.own x hx).elim (fun h=>by cases h) id⟩) F.nd
 replace H:Ctx w0 [] w ([(bd,Bl 123 (DU b 1)),(b,o)]++((bx,Bl 116 [.slice a 2 c])::ent a 64 full)):=H.comm
 refine AW rfl rfl (Ab (Aa (Af (A2 rfl rfl (Am rfl ca_52 (YA (d:=⟨1,0,1,9,1,1,false⟩) _ (H.get at0) (H.get at1) hM (H.ne at0 at1 (by decide)) rfl rfl (by decide) (by decide) (by decide) (fun _ h=>by cases h) (by decide)) rfl ?_)))))
 rintro v w ⟨rfl,o1,hM1,H2⟩
 replace H:=Ctx.back (L1:=[_,_]) H H2
 replace H:Ctx w0 [] w ([]++(LX bx a xA0.length c full bd b 2 o1++[])):=H.perm (by rw [List.append_nil]; exact Ab8 _ _ _ _)
 refine B9 rfl rfl (A3 rfl rfl rfl (A3 rfl rfl rfl (Ae rfl rfl (Ae rfl rfl (Ab (Aa (An (Af (Ad rfl rfl (Cp rfl rfl rfl ?_))))))))))
 refine Aw rfl rfl (Ad rfl rfl (Cp rfl rfl rfl (A6 rfl rfl (.bool _) rfl (Ab (Aa (CJ rfl (Ao (Aa (Af (A2 rfl rfl (A2 rfl rfl ?_)))))))))))
 refine Am rfl L8 (Ij xa0 xd0 xb0 false H i2 hM1) rfl ?_
 rintro v w ⟨r,q,rfl,P,RA,hoff,-,H37⟩
 obtain ⟨w37,rfl⟩:∃ z,z=w:=⟨_,rfl⟩
 obtain ⟨S37,hS37⟩:∃ S:List Nat,S=([]++(LX bx a xA0.length c full bd b 2 o1++[])).map (fun x:Nat × Obj=>x.1):=⟨_,rfl⟩
 rw [← hS37] at hoff
 have hoL:∀ (f:List Value) (p:Obj),ROff q r (·∈(LX bx a xA0.length c f bd b 2 p).map (·.1)):=fun f p=>hoff.mono fun x hx=>(by rw [hS37,List.nil_append,List.append_nil,Xz (g:=f) (p:=p)]; exact hx)
 have H:Ctx w37 S37 w37 ((bx,Bl 116 [.slice a 2 c])::(bd,Bl 123 (DU b 2))::(b,o1)::(ent a 64 full++[])):=by rw [hS37]; exact Ctx.lend (L2:=[]) (by rw [List.append_nil]; exact H37)
 refine B9 rfl rfl (A3 rfl rfl rfl (A3 rfl rfl rfl (Bj rfl II H ?_)))
 rintro b6 w - H
 refine B5 rfl DL rfl rfl rfl (by simp [Bm]) H at0 rfl ?_
 rintro w H
 refine Ae rfl rfl (Ab (Aa (Af (A2 rfl rfl (A2 rfl rfl (B6 rfl FN DL rfl H at0 rfl (Am rfl Qt (Ik (B:=[(b6,_)]) (R:=[]) xa0 xd0 H i2 hM1 (RA.ext H.ext hoff) (hoL _ _) (Jt P)) rfl ?_)))))))
 rintro v w ⟨rfl,full1,o2,O1,hM2,-,H⟩
 rw [(SX P).1]
 rw [(SX P).2.1] at O1
 rw [(SX P).2.2] at hM2
 replace H:Ctx w37 S37 w ((b6,Bl 33 (Br r q))::(bx,Bl 116 [.slice a 2 c])::(bd,Bl 123 (DU b 2))::(b,o2)::(ent a 64 full1++[])):=H
 have RA1:Rd w a 2 CB xA1:=OS.rd O1 (fun x hx=>H.blk x (List.mem_append_right [_,_,_,_] (List.mem_append_left _ hx))) (fun _ _=>rfl) (by decide)
 refine Ae rfl rfl (Ab (Aa (Af (A2 rfl rfl (Am rfl ca_53 (Y8 a 2 c xA1 1 _ (H.get at1) RA1 rfl (by omega)) rfl ?_)))))
 rintro v w ⟨rfl,hx46⟩
 replace H:=H.call hx46
 rw [show getA xA1 1=⟨5,0⟩ from rfl]
 refine B9 rfl rfl (A3 rfl rfl rfl (A3 rfl rfl rfl (Bj rfl Hr H ?_)))
 rintro b9 w - H
 refine B5 rfl Dc rfl rfl rfl (by simp [Bm]) H at0 rfl ?_
 rintro w H
 refine Ai rfl rfl (Ab (Aa (Af (A2 rfl rfl (Am rfl Ze (TP (k:=1) _ (H.get at3) (H.get at4) hM2) rfl ?_)))))
 rintro v w ⟨rfl,hx51⟩
 replace H:=H.call hx51
 rw [show LJ xD1 1=⟨1,0,1,4,1,1,false⟩ from rfl]
 refine B9 rfl rfl (A3 rfl rfl rfl (A3 rfl rfl rfl (Bj rfl Eh H ?_)))
 rintro b11 w - H
 refine B5 rfl B2 rfl rfl rfl (by simp [Bm]) H at0 rfl ?_
 rintro w H
 refine Ai rfl rfl (Ab (Aa (Af (A2 rfl rfl (A2 rfl rfl (Am rfl L8 (Ij (B:=[_,_,_]) (R:=[]) xa1 xd1 xb1 true H O1 hM2) rfl ?_))))))
 rintro v w ⟨r',q',rfl,P',RA',hoff',-,H57⟩
 obtain ⟨no,day,cmp,ids,N,es,fl,pot⟩:=r'
 have hcmp:=P'.cmp
 dsimp only at hcmp
 subst hcmp
 obtain ⟨w57,rfl⟩:∃ z,z=w:=⟨_,rfl⟩
 obtain ⟨L57,hL57⟩:∃ L,L=[(b11,Bl 62 (Cf ⟨1,0,1,4,1,1,false⟩)),(b9,Bl 64 (CB ⟨5,0⟩)),(b6,Bl 33 (Br r q))]++(LX bx a xA1.length c full1 bd b 2 o2++[]):=⟨_,rfl⟩
 obtain ⟨S57,hS57⟩:∃ S:List Nat,S=L57.map (fun x:Nat × Obj=>x.1):=⟨_,rfl⟩
 replace H57:Ctx w37 S37 w57 (L57++[]):=by rw [hL57,List.append_nil]; exact H57
 replace hoff':ROff q' ⟨no,day,true,ids,N,es,fl,pot⟩ (·∈S57):=by rw [hS57,hL57]; exact hoff'
 have hoL':∀ (f:List Value) (p:Obj),ROff q' ⟨no,day,true,ids,N,es,fl,pot⟩ (·∈(LX bx a xA0.length c f bd b 2 p).map (·.1)):=fun f p=>hoff'.mono fun x hx=>(by rw [hS57,hL57,List.map_append,List.append_nil,Xz (g:=f) (p:=p)]; exact List.mem_append_right _ hx)
 have H:=Ctx.lend H57
 rw [← hS57,hL57] at H
 replace H:Ctx w57 S57 w57 ((b11,Bl 62 (Cf ⟨1,0,1,4,1,1,false⟩))::(b9,Bl 64 (CB ⟨5,0⟩))::(b6,Bl 33 (Br r q))::(bx,Bl 116 [.slice a 2 c])::(bd,Bl 123 (DU b 2))::(b,o2)::(ent a 64 full1++[])):=H
 refine B9 rfl rfl (A3 rfl rfl rfl (A3 rfl rfl rfl (Bj rfl II H ?_)))
 rintro b13 w - H
 refine B5 rfl DL rfl rfl rfl (by simp [Bm]) H at0 rfl ?_
 rintro w H
 refine Ae rfl rfl (Ab (Aa (Af (Ad rfl rfl (Cu rfl rfl rfl (Aw rfl rfl (Ad rfl rfl (Cu rfl rfl rfl (AA rfl rfl (.bool _) rfl (Aw rfl rfl ?_))))))))))
 refine Ah rfl EJ rfl (AN rfl Bt rfl H at2 rfl (Cu rfl rfl rfl (AA rfl rfl (.bool _) rfl (Aw rfl rfl (Ah rfl Dp rfl (AN rfl Bt rfl H at1 rfl (Cu rfl rfl rfl (AA rfl rfl (.bool _) rfl (Aw rfl rfl ?_)))))))))
 refine Ad rfl rfl (Cu rfl rfl rfl (AA rfl rfl (.bool _) rfl (Aw rfl rfl (Ah rfl LY rfl (AN rfl Jf rfl H at0 rfl (AA rfl rfl (.bool _) rfl (Aw rfl rfl (A2 rfl rfl (A2 rfl rfl ?_)))))))))
 refine B6 rfl FN DL rfl H at0 rfl (Am rfl Qt (Ik (B:=[_,_,_,_]) (R:=[]) xa1 xd1 H O1 hM2 (RA'.ext H.ext hoff') (hoL' _ _) (Jt P')) rfl ?_)
 rintro v w ⟨rfl,full2,o3,O2,hM3,-,H⟩
 rw [(SY P').1]
 rw [(SY P').2.1] at O2
 rw [(SY P').2.2] at hM3
 refine Cu rfl rfl rfl (AA rfl rfl (.bool _) rfl (Aw rfl rfl (A2 rfl rfl (A2 rfl rfl (B6 rfl FN DL rfl H at3 rfl (Am rfl Qt (Ik (B:=[_,_,_,_]) (R:=[]) xa1 xd1 H O2 hM3 (RA.ext (Ctx.back H57 (by rw [← hS57]; exact H)).ext hoff) (hoL _ _) (Jt P)) rfl ?_))))))
 rintro v w ⟨rfl,full3,o4,-,-,-,H⟩
 rw [Ab9 P]
 refine Cu rfl rfl rfl (AA rfl rfl (.bool _) rfl (Ai rfl rfl (Ab (Aa (A8 (AB (v:=(.bool _)) rfl rfl rfl ?_))))))
 rw [hS57] at H
 have HB:=Ctx.back H57 H
 rw [hS37] at HB
 exact ⟨rfl,(Ctx.back (L2:=[]) (by rw [List.append_nil]; exact H37) HB).ext⟩
end Go.Proofs.YtapphbmlkdhnmaaGreat

/- What the form reads of this seat's arguments. -/
namespace Go.Proofs.YtapphbmlkdhnmaaGreat
open Go.GV Go.ChangeShapes Go.WideShapes

theorem own:ownKnob Tryz.prog.godebug=none:=by kernel_rfl
theorem PK:laidOutB Tryz.prog=true:=by kernel_rfl
section
variable {H:Type} {enc:TypeId × Value→H} {w:World} {base:Nat} {spare:Nat→Bool} {held:Bool}
/-- A field that is a slice. -/
theorem IF {α:Type} {P:Program} {fuel:Nat} {t u e:TypeId} {s:Nat} {cs:List Value} {x:DataW H × List MemPlace} {fs:Array Field} {encd:α→List Value} {Good:α→Prop} (ht:P.underlying t=some (.struct fs)) (h:DataW.trod enc P w base spare held fuel t cs=some x) (i o:Nat)
  (hf:(fs[i]?.map fun f=>(f.type,f.offset))=some (u,o)) (hu:P.underlying u=some (.slice e)) (hc:P.cellsOf u=1) (hs:P.cellsOf e=s) (h0:0<s)
  (dec:∀ n cs y,DataW.trod enc P w base spare held n e cs=some y→∃ d,cs=encd d∧Good d) :
  ∃ (a:Option Addr) (c:Nat) (l:List α),cs[o]? = some (.slice a l.length c)∧Rd w a s encd l∧l.length≤c∧c≤maxLen∧(∀ d∈l,Good d):=by
 obtain ⟨n,y,h1⟩:=Pj ht h i o hf
 rw [hc] at h1
 have hv:∃ v,(cs.drop o).take 1=[v]:=by
  rcases Go.Deep.open_slice hu h1 with ⟨hc,-⟩ | ⟨_,_,_,_,_,_,_,hc,-⟩
  ·exact ⟨_,hc⟩
  ·exact ⟨_,hc⟩
 obtain ⟨v,hv⟩:=hv
 rw [hv] at h1
 obtain ⟨a,c,l,rfl,R,h2,h3,h4⟩:=YX hu hs h0 dec h1
 exact ⟨a,c,l,MH hv,R,h2,h3,h4⟩
theorem X0:∃ fs,Tryz.prog.underlying 64=some (.struct fs)∧(List.range 2).map (fun i=>fs[i]?.map fun f=>(f.type,f.offset))=[some (2,0),some (2,1)]:=⟨_,Tryz.underlying64,by kernel_rfl⟩
theorem TX:Tryz.prog.cellsOf 64=2:=by kernel_rfl
theorem X1:∃ fs,Tryz.prog.underlying 62=some (.struct fs)∧(List.range 7).map (fun i=>fs[i]?.map fun f=>(f.type,f.offset))=[some (24,0),some (3,1),some (3,2),some (2,3),some (2,4),some (2,5),some (4,6)]:=⟨_,Tryz.underlying62,by kernel_rfl⟩
theorem TY:Tryz.prog.cellsOf 62=7:=by kernel_rfl
theorem X2:∃ fs,Tryz.prog.underlying 92=some (.struct fs)∧(List.range 4).map (fun i=>fs[i]?.map fun f=>(f.type,f.offset))=[some (3,0),some (3,1),some (2,2),some (2,3)]:=⟨_,Tryz.underlying92,by kernel_rfl⟩
theorem TZ:Tryz.prog.cellsOf 92=4:=by kernel_rfl
theorem Ro:Tryz.prog.cellsOf 2=1:=by kernel_rfl
theorem X3:Tryz.prog.cellsOf 24=1:=by kernel_rfl
theorem eds1:Tryz.prog.cellsOf 26=1:=by kernel_rfl
theorem Zs:Tryz.prog.cellsOf 29=1:=by kernel_rfl
theorem u64s1:Tryz.prog.cellsOf 25=1:=by kernel_rfl
theorem Vd:∃ fs,Tryz.prog.underlying 28=some (.struct fs)∧(List.range 2).map (fun i=>fs[i]?.map fun f=>(f.type,f.offset))=[some (3,0),some (26,1)]:=⟨_,Tryz.underlying28,by kernel_rfl⟩
theorem X4:Tryz.prog.cellsOf 28=2:=by kernel_rfl
theorem SZ:∃ fs,Tryz.prog.underlying 31=some (.struct fs)∧(List.range 2).map (fun i=>fs[i]?.map fun f=>(f.type,f.offset))=[some (29,0),some (29,1)]:=⟨_,Tryz.underlying31,by kernel_rfl⟩
theorem Ve:Tryz.prog.cellsOf 31=2:=by kernel_rfl
theorem OQ:∃ fs,Tryz.prog.underlying 33=some (.struct fs)∧(List.range 6).map (fun i=>fs[i]?.map fun f=>(f.type,f.offset))=[some (24,0),some (2,1),some (4,2),some (25,3),some (28,4),some (31,6)]:=⟨_,Tryz.underlying33,by kernel_rfl⟩
theorem X5:Tryz.prog.cellsOf 33=8:=by kernel_rfl
theorem Aca:∀ n cs y,DataW.trod enc Tryz.prog w base spare held n 64 cs=some y→∃ d:Ac,cs=CB d∧(I64 d.ba∧I64 d.re):=by
 intro n cs y h
 obtain ⟨fs,ht,hf⟩:=X0
 have hl:=J3 ht h
 rw [TX] at hl
 simp only [List.range,List.range.loop,List.map_cons,List.map_nil,List.cons.injEq,and_true] at hf
 obtain ⟨f0,f1⟩:=hf
 obtain ⟨a,ha,a1,a2⟩:=Ez ht h 0 0 f0 Tryz.underlying2
 obtain ⟨b,hb,b1,b2⟩:=Ez ht h 1 1 f1 Tryz.underlying2
 refine ⟨⟨a,b⟩,?_,⟨a1,a2⟩,b1,b2⟩
 match cs,hl with
 | [_,_],_ =>
  simp at ha hb
  simp [ha,hb]
/-- What a due's numbers may be, as its type has it. -/
def DuT (d:Du):Prop:=(0≤d.id∧d.id<18446744073709551616)∧I64 d.fr∧I64 d.to∧I64 d.am∧I64 d.we∧I64 d.un
theorem Acb:∀ n cs y,DataW.trod enc Tryz.prog w base spare held n 62 cs=some y→∃ d:Du,cs=Cf d∧DuT d:=by
 intro n cs y h
 obtain ⟨fs,ht,hf⟩:=X1
 have hl:=J3 ht h
 rw [TY] at hl
 simp only [List.range,List.range.loop,List.map_cons,List.map_nil,List.cons.injEq,and_true] at hf
 obtain ⟨f0,f1,f2,f3,f4,f5,f6⟩:=hf
 obtain ⟨a,ha,a1,a2⟩:=Ez ht h 0 0 f0 Tryz.underlying24
 obtain ⟨b,hb,hb'⟩:=Ez ht h 1 1 f1 Tryz.underlying3
 obtain ⟨c,hc,hc'⟩:=Ez ht h 2 2 f2 Tryz.underlying3
 obtain ⟨d,hd,hd'⟩:=Ez ht h 3 3 f3 Tryz.underlying2
 obtain ⟨e,he,he'⟩:=Ez ht h 4 4 f4 Tryz.underlying2
 obtain ⟨f,hf,hf'⟩:=Ez ht h 5 5 f5 Tryz.underlying2
 obtain ⟨g,hg⟩:=Qr ht h 6 6 f6 Tryz.underlying4
 refine ⟨⟨a,b,c,d,e,f,g⟩,?_,⟨a1,by have a3:a≤18446744073709551615:=a2; dsimp only; omega⟩,hb',hc',hd',he',hf'⟩
 match cs,hl with
 | [_,_,_,_,_,_,_],_ =>
  simp at ha hb hc hd he hf hg
  simp [ha,hb,hc,hd,he,hf,hg]
def EdT (e:Ed):Prop:=I64 e.f∧I64 e.t∧I64 e.cap∧I64 e.cost
theorem Acc:∀ n cs y,DataW.trod enc Tryz.prog w base spare held n 92 cs=some y→∃ d:Ed,cs=Cw d∧EdT d:=by
 intro n cs y h
 obtain ⟨fs,ht,hf⟩:=X2
 have hl:=J3 ht h
 rw [TZ] at hl
 simp only [List.range,List.range.loop,List.map_cons,List.map_nil,List.cons.injEq,and_true] at hf
 obtain ⟨f0,f1,f2,f3⟩:=hf
 obtain ⟨a,ha,ha'⟩:=Ez ht h 0 0 f0 Tryz.underlying3
 obtain ⟨b,hb,hb'⟩:=Ez ht h 1 1 f1 Tryz.underlying3
 obtain ⟨c,hc,hc'⟩:=Ez ht h 2 2 f2 Tryz.underlying2
 obtain ⟨d,hd,hd'⟩:=Ez ht h 3 3 f3 Tryz.underlying2
 refine ⟨⟨a,b,c,d⟩,?_,ha',hb',hc',hd'⟩
 match cs,hl with
 | [_,_,_,_],_ =>
  simp at ha hb hc hd
  simp [Cw,ha,hb,hc,hd]
/-- What a round's numbers may be, as its type has it. -/
structure RT (r:Rnd):Prop where
 no:0≤r.no∧r.no<18446744073709551616
 day:I64 r.day
 ids:∀ x∈r.ids,0≤x∧x<18446744073709551616
 N:I64 r.N
 es:∀ e∈r.es,EdT e
 fl:∀ x∈r.fl,I64 x
 pot:∀ x∈r.pot,I64 x
theorem KQ {cs:List Value} {o m j:Nat} {v:Value} (h:((cs.drop o).take m)[j]? = some v):cs[o+j]? = some v:=by
 rw [List.getElem?_take] at h
 split at h
 ·rw [List.getElem?_drop] at h; exact h
 ·cases h
theorem YP:∀ n cs y,DataW.trod enc Tryz.prog w base spare held n 33 cs=some y→∃ (r:Rnd) (q:RSl),cs=Br r q∧RAt w r q∧RT r:=by
 intro n cs y h
 obtain ⟨fs,ht,hf⟩:=OQ
 have hl:=J3 ht h
 rw [X5] at hl
 simp only [List.range,List.range.loop,List.map_cons,List.map_nil,List.cons.injEq,and_true] at hf
 obtain ⟨f0,f1,f2,f3,f4,f5⟩:=hf
 obtain ⟨no,hno,no1,no2⟩:=Ez ht h 0 0 f0 Tryz.underlying24
 obtain ⟨day,hday,hday'⟩:=Ez ht h 1 1 f1 Tryz.underlying2
 obtain ⟨cmp,hcmp⟩:=Qr ht h 2 2 f2 Tryz.underlying4
 obtain ⟨aI,cI,ids,hI,RI,-,-,gI⟩:=IF ht h 3 3 f3 Tryz.underlying25 u64s1 X3 (by decide) (Pk Tryz.underlying24)
 obtain ⟨n4,y4,h4⟩:=Pj ht h 4 4 f4
 rw [X4] at h4
 obtain ⟨n5,y5,h5⟩:=Pj ht h 5 6 f5
 rw [Ve] at h5
 obtain ⟨gs,gt,hg⟩:=Vd
 simp only [List.range,List.range.loop,List.map_cons,List.map_nil,List.cons.injEq,and_true] at hg
 obtain ⟨g0,g1⟩:=hg
 obtain ⟨N,hN,hN'⟩:=Ez gt h4 0 0 g0 Tryz.underlying3
 obtain ⟨aE,cE,es,hE,RE,-,-,gE⟩:=IF gt h4 1 1 g1 Tryz.underlying26 eds1 TZ (by decide) Acc
 obtain ⟨ks,kt,hk⟩:=SZ
 simp only [List.range,List.range.loop,List.map_cons,List.map_nil,List.cons.injEq,and_true] at hk
 obtain ⟨k0,k1⟩:=hk
 obtain ⟨aF,cF,fl,hF,RF,hfc,-,gF⟩:=IF kt h5 0 0 k0 Tryz.underlying29 Zs Ro (by decide) (Pk Tryz.underlying2)
 obtain ⟨aP,cP,pot,hP,RP,-,-,gP⟩:=IF kt h5 1 1 k1 Tryz.underlying29 Zs Ro (by decide) (Pk Tryz.underlying2)
 have e4:=KQ hN
 have e5:=KQ hE
 have e6:=KQ hF
 have e7:=KQ hP
 refine ⟨⟨no,day,cmp,ids,N,es,fl,pot⟩,⟨aI,cI,aE,cE,aF,cF,aP,cP⟩,?_,⟨RI,RE,RF,RP,hfc⟩,⟨⟨no1,by have a3:no≤18446744073709551615:=no2; dsimp only; omega⟩,hday',fun x hx=>?_,hN',gE,gF,gP⟩⟩
 ·match cs,hl with
  | [_,_,_,_,_,_,_,_],_ =>
   simp at hno hday hcmp hI e4 e5 e6 e7
   simp [hno,hday,hcmp,hI,e4,e5,e6,e7]
 ·have h1:=gI x hx
  have h2:0≤x:=h1.1
  have h3:x≤18446744073709551615:=h1.2
  omega
set_option maxRecDepth 100000 in
theorem Acd {b:Nat} {v:Value} {d:DataW H} {ps:List MemPlace} (hv:Value.okWide Tryz.prog w .any b 33 v) (h:DataW.Trod enc Tryz.prog w base spare held 33 v d ps):∃ (r:Rnd) (q:RSl),v = .agg (Br r q).toArray∧RAt w r q∧RT r:=by
 obtain ⟨fs,ht,_⟩:=OQ
 obtain ⟨cs,rfl,_⟩:=okWide_struct ht hv
 obtain ⟨fuel,hf⟩:=h
 obtain ⟨r,q,hx,h1,h2⟩:=YP fuel cs.toList (d,ps) (by simpa [Value.cells] using hf)
 exact ⟨r,q,by rw [← hx],h1,h2⟩
set_option maxRecDepth 100000 in
theorem X6 {b:Nat} {v:Value} {d:DataW H} {ps:List MemPlace} (hv:Value.okWide Tryz.prog w .any b 22 v) (h:DataW.Trod enc Tryz.prog w base spare held 22 v d ps):∃ a c l,v = .slice a l.length c∧Rd w a 2 CB l∧∀ x∈l,I64 x.ba∧I64 x.re:=by
 obtain ⟨a,c,l,h1,h2,-,-,h3⟩:=Tq Tryz.underlying22 TX (by decide) Aca (okWide_slice Tryz.underlying22 hv) h
 exact ⟨a,c,l,h1,h2,h3⟩
set_option maxRecDepth 100000 in
theorem X7 {b:Nat} {v:Value} {d:DataW H} {ps:List MemPlace} (hv:Value.okWide Tryz.prog w .any b 23 v) (h:DataW.Trod enc Tryz.prog w base spare held 23 v d ps):∃ a c l,v = .slice a l.length c∧Rd w a 7 Cf l∧∀ x∈l,DuT x:=by
 obtain ⟨a,c,l,h1,h2,-,-,h3⟩:=Tq Tryz.underlying23 TY (by decide) Acb (okWide_slice Tryz.underlying23 hv) h
 exact ⟨a,c,l,h1,h2,h3⟩
end
end Go.Proofs.YtapphbmlkdhnmaaGreat
