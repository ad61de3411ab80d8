/- Part 13 of the proof. -/
import Derived.Test.YtapphbmlkdhnmaaGreatPart2
import Derived.Test.YtapphbmlkdhnmaaGreatPart12
import Derived.Test.YtapphbmlkdhnmaaGreatPart3
import Derived.Test.YtapphbmlkdhnmaaGreatPart11
import Derived.Test.YtapphbmlkdhnmaaGreatRows
/- Plans and rounds among what else one holds; the chapter's example. -/
namespace Go.Proofs.YtapphbmlkdhnmaaGreat
open Go.GV
attribute [local irreducible] AL W Wq Wt

theorem Aca {α:Type} (A B C:α) (E:List α):([A,B]++(C::E)).Perm (C::A::B::E):=by
 classical exact List.perm_iff_count.2 fun x=>by simp only [List.count_append,List.count_cons,List.count_nil]; omega
theorem SY {α:Type} (B L R:List α):(B++(L++R)).Perm (L++(B++R)):=by
 classical exact List.perm_iff_count.2 fun x=>by simp only [List.count_append]; omega
theorem Ctx.mid {w0 w w':World} {S:List Nat} {B L L' R:List (Nat × Obj)} (H:Ctx w0 S w (B++(L++R))) (H':Ctx w (L.map (·.1)) w' L'):Ctx w0 S w' (B++(L'++R)) :=
 (Ctx.back (H.perm (SY B L R)) H').perm (SY B L' R).symm
theorem Ctx.in' {w0 w:World} {S:List Nat} {B L R:List (Nat × Obj)} (H:Ctx w0 S w (B++(L++R))):Ctx w (L.map (·.1)) w L:=Ctx.lend (H.perm (SY B L R))
theorem LX.ac {bx:Nat} {a:Option Addr} {c:Nat} {full:List Value} {bd b:Nat} {nx:Int} {o:Obj} {acs:List Ac} {w0 w:World} {S:List Nat} (H:Ctx w0 S w (LX bx a acs.length c full bd b nx o)) (O:OS a acs.length c 2 full (acs.flatMap CB)):AcAt w 116 bx acs :=
 ⟨a,c,H.get at0,OS.rd O (fun x hx=>H.blk x (List.mem_cons_of_mem _ (List.mem_cons_of_mem _ (List.mem_cons_of_mem _ hx)))) (fun _ _=>rfl) (by decide)⟩
theorem LX.du {bx:Nat} {a:Option Addr} {n c:Nat} {full:List Value} {bd b:Nat} {nx:Int} {o:Obj} {ds:List Du} {w0 w:World} {S:List Nat} (H:Ctx w0 S w (LX bx a n c full bd b nx o)) (hM:D8 .u64 (dm ds) o):DuAt w bd ds :=
 ⟨b,nx,o,H.get at1,H.get at2,hM⟩
theorem RX.ac {ba:Nat} {a:Option Addr} {c:Nat} {full:List Value} {br:Nat} {ad:Option Addr} {m cd:Nat} {nx:Int} {fd:List Value} {acs:List Ac} {w0 w:World} {S:List Nat} (H:Ctx w0 S w (RX ba a acs.length c full br ad m cd nx fd)) (O:OS a acs.length c 2 full (acs.flatMap CB)):AcAt w 52 ba acs :=
 ⟨a,c,H.get at0,OS.rd O (fun x hx=>H.blk x (List.mem_cons_of_mem _ (List.mem_cons_of_mem _ (List.mem_append_right _ hx)))) (fun _ _=>rfl) (by decide)⟩
theorem RX.du {ba:Nat} {a:Option Addr} {n c:Nat} {full:List Value} {br:Nat} {ad:Option Addr} {cd:Nat} {nx:Int} {fd:List Value} {ds:List Du} {w0 w:World} {S:List Nat} (H:Ctx w0 S w (RX ba a n c full br ad ds.length cd nx fd)) (O:OS ad ds.length cd 7 fd (ds.flatMap Cf)):RdAt w br ds :=
 ⟨ad,cd,nx,H.get at1,OS.rd O (fun x hx=>H.blk x (List.mem_cons_of_mem _ (List.mem_cons_of_mem _ (List.mem_append_left _ hx)))) (fun _ _=>rfl) (by decide)⟩
theorem ROff.old {w0 w:World} {S:List Nat} {L:List (Nat × Obj)} {q:RSl} {r:Rnd} (H:Ctx w0 S w L) (h:ROff q r (fun x=>x<w.heap.size)):ROff q r (·∈L.map (·.1)) :=
 h.mono fun x hx=>by
  obtain ⟨y,hy,rfl⟩:=List.mem_map.1 hx
  exact Bp (H.blk y hy)
/-- Limits of a round that is held. -/
structure RBnd (r:Rnd):Prop where
 N:I64 r.N
 es:r.es.length≤1000000
 ids:r.ids.length≤1000000
 fl:r.fl.length≤1000000
 pot:r.pot.length≤1000000
theorem Jt {acs:List Ac} {ds:List Du} {net:Bool} {r:Rnd} (P:PlanR acs ds net r):RBnd r:=by
 obtain ⟨h1,h2,-⟩:=JG.1 P.chk
 obtain ⟨g1,g2,g3,-⟩:=Cn (BZ (Gj h1).1).2.1
 have g4:=(BZ (Gj h1).1).1
 have g5:=(Ll h2).1
 refine ⟨⟨by omega,by omega⟩,by omega,?_,by omega,by omega⟩
 rw [P.ids,List.length_map]
 have:(opn ds).length≤r.es.length:=by rw [P.es,Fc]; omega
 omega
/-- A plan of accounts and dues that make a round. -/
theorem Ij {bx bd b c:Nat} {a:Option Addr} {full:List Value} {o:Obj} {acs:List Ac} {ds:List Du} {nx:Int} {w w0:World} {S:List Nat} {B R:List (Nat × Obj)} (ha:DB acs=0) (hd:ofC ds nx=0) (hb:CD (acs.map Ce) ds=true) (net:Bool) (H:Ctx w0 S w (B++(LX bx a acs.length c full bd b nx o++R))) (O:OS a acs.length c 2 full (acs.flatMap CB)) (hM:D8 .u64 (dm ds) o) :
  Ret Tryz.prog 12 #[ptr bx,ptr bd,.bool net] w fun v w'=>∃ r q,v = .tuple #[.agg (Br r q).toArray,.int .i64 0]∧PlanR acs ds net r∧RAt w' r q∧ROff q r (·∈(B++(LX bx a acs.length c full bd b nx o++R)).map (·.1))∧Ext [] w w'∧Ctx w0 S w' (B++(LX bx a acs.length c full bd b nx o++R)):=by
 refine Ret.mono (TV ha hd net w (LX.ac (Ctx.in' H) O) (LX.du (Ctx.in' H) hM)) fun v w' h=>?_
 obtain ⟨hx,⟨h1,-⟩ | ⟨-,r,q,h2,P,RA,hoff⟩⟩:=h
 ·rw [hb] at h1; cases h1
 ·exact ⟨r,q,h2,P,RA,ROff.old H hoff,hx,H.call hx⟩
theorem Ik {bx bd b c:Nat} {a:Option Addr} {full:List Value} {o:Obj} {acs:List Ac} {ds:List Du} {nx:Int} {r:Rnd} {q:RSl} {w w0:World} {S:List Nat} {B R:List (Nat × Obj)} (ha:DB acs=0) (hd:ofC ds nx=0) (H:Ctx w0 S w (B++(LX bx a acs.length c full bd b nx o++R))) (O:OS a acs.length c 2 full (acs.flatMap CB)) (hM:D8 .u64 (dm ds) o) (RA:RAt w r q) (hoff:ROff q r (·∈(LX bx a acs.length c full bd b nx o).map (·.1))) (hr:RBnd r) :
  Ret Tryz.prog 21 #[ptr bx,ptr bd,.agg (Br r q).toArray] w fun v w'=>v = .int .i64 (De acs ds r)∧∃ full' o',OS a acs.length c 2 full' ((DY acs ds r).flatMap CB)∧D8 .u64 (dm (Dz acs ds r)) o' ∧
   Ext ((LX bx a acs.length c full bd b nx o).map (·.1)) w w'∧Ctx w0 S w' (B++(LX bx a acs.length c full' bd b nx o'++R)):=by
 refine Ret.mono (Xy ha hd w (Ctx.in' H) O hM RA hoff hr.N hr.es hr.ids hr.fl hr.pot) fun v w' h=>?_
 obtain ⟨h1,full',o',O',hM',H'⟩:=h
 exact ⟨h1,full',o',O',hM',H'.ext,Ctx.mid H H'⟩
theorem PL {ba br:Nat} {a ad:Option Addr} {c cd:Nat} {full fd:List Value} {acs:List Ac} {ds:List Du} {nx:Int} {r:Rnd} {q:RSl} {w w0:World} {S:List Nat} {B R:List (Nat × Obj)} (ha:DB acs=0) (hd:ofC ds nx=0) (H:Ctx w0 S w (B++(RX ba a acs.length c full br ad ds.length cd nx fd++R))) (O:OS a acs.length c 2 full (acs.flatMap CB)) (OD:OS ad ds.length cd 7 fd (ds.flatMap Cf)) (RA:RAt w r q) (hoff:ROff q r (·∈(RX ba a acs.length c full br ad ds.length cd nx fd).map (·.1))) (hr:RBnd r) :
  Ret Tryz.prog 22 #[ptr ba,ptr br,.agg (Br r q).toArray] w fun v w'=>v = .int .i64 (De acs ds r)∧∃ full' ad' cd' fd',OS a acs.length c 2 full' ((DY acs ds r).flatMap CB)∧OS ad' (Dz acs ds r).length cd' 7 fd' ((Dz acs ds r).flatMap Cf) ∧
   Ext ((RX ba a acs.length c full br ad ds.length cd nx fd).map (·.1)) w w'∧Ctx w0 S w' (B++(RX ba a acs.length c full' br ad' (Dz acs ds r).length cd' nx fd'++R)):=by
 refine Ret.mono (Ro ha hd w (Ctx.in' H) O OD RA hoff hr.es hr.ids hr.fl hr.pot) fun v w' h=>?_
 obtain ⟨h1,full',ad',cd',fd',O',OD',H'⟩:=h
 exact ⟨h1,full',ad',cd',fd',O',OD',H'.ext,Ctx.mid H H'⟩
theorem YQ {a:Option Addr} {t:TypeId} {f g:List Value}:(ent a t f).map (·.1)=(ent a t g).map (·.1):=by cases a <;> rfl
theorem X1 {bx bd b n c:Nat} {a:Option Addr} {f g:List Value} {nx:Int} {o p:Obj}:(LX bx a n c f bd b nx o).map (·.1)=(LX bx a n c g bd b nx p).map (·.1):=by
 simp only [List.map_cons,YQ (f:=f) (g:=g)]
/-! ### The example -/
abbrev xA0:List Ac:=[⟨5,0⟩,⟨0,0⟩]
abbrev xA1:List Ac:=[⟨0,0⟩,⟨5,0⟩]
abbrev xD0:List Du:=[⟨1,0,1,9,1,1,false⟩]
abbrev xD1:List Du:=[⟨1,0,1,4,1,1,false⟩]
abbrev xE0:List Ed:=[⟨0,1,9,-1⟩,⟨2,0,5,0⟩,⟨0,2,4503599627370496,0⟩,⟨2,1,0,0⟩,⟨1,2,4503599627370496,0⟩]
theorem xe0:BF (xA0.map Ce) (opn xD0) false=xE0:=by decide
theorem xa0:DB xA0=0:=by decide
theorem xa1:DB xA1=0:=by decide
theorem xd0:ofC xD0 2=0:=by decide
theorem xd1:ofC xD1 2=0:=by decide
theorem xb0:CD (xA0.map Ce) xD0=true:=by decide
theorem xb1:CD (xA1.map Ce) xD1=true:=by decide
theorem OQ {l:List Int} (h:0<l.length):l.take 1=[flE l 0]:=by
 cases l with
 | nil=>exact absurd h (by decide)
 | cons x l=>rfl
theorem SZ {r:Rnd} (P:PlanR xA0 xD0 false r):De xA0 xD0 r=0∧DY xA0 xD0 r=xA1∧Dz xA0 xD0 r=xD1:=by
 have hC:=Lv xb0 P
 have F:=E6 xa0 xd0 hC
 obtain ⟨p1,p2,p3,p4⟩:=Ea P
 have hes:=P.es.trans xe0
 have hN:r.N=3:=P.N
 have hcmp:=P.cmp
 have hlen:r.fl.length=5:=by rw [F.len,hes]; rfl
 have hg:=GY p1
 rw [hN,hes] at p3 p4 hg
 obtain ⟨x,hx⟩:∃ x,x=flE r.fl:=⟨_,rfl⟩
 rw [← hx] at p3 p4
 have o0:=p3 0 (by decide)
 have o1:=p3 1 (by decide)
 have i0:=p4.in' 0 (by decide)
 have i1:=p4.in' 1 (by decide)
 have i2:=p4.in' 2 (by decide)
 have i3:=p4.in' 3 (by decide)
 have hbest:=Fine.best hg p4 p3 (y:=fun i=>[5,5,0,0,5].getD i 0) (fun i hi=>by
  have hi':i<5:=hi
  match i,hi' with
  | 0,_=>decide
  | 1,_=>decide
  | 2,_=>decide
  | 3,_=>decide
  | 4,_=>decide) (fun v hv=>by
  have hv':v<3:=hv
  match v,hv' with
  | 0,_=>decide
  | 1,_=>decide
  | 2,_=>decide)
 have hc1:Gh (grE 3 xE0) (fun i=>[5,5,0,0,5].getD i 0) = -5:=by decide
 have hc2:Gh (grE 3 xE0) x = -(x 0):=by
  show 0+x 0 * -1+x 1*0+x 2*0+x 3*0+x 4*0=_
  omega
 have e0:BA (grE 3 xE0) x 0 = -(x 0)+x 1 - x 2:=by
  show 0+(0 - 1)*x 0+(1 - 0)*x 1+(0 - 1)*x 2+(0 - 0)*x 3+(0 - 0)*x 4=_
  omega
 have c1:Co xE0 1=5:=rfl
 have h5:x 0=5:=by
  rw [hc1,hc2] at hbest
  rw [e0] at o0
  rw [c1] at i1
  omega
 have hby:∀ k,byK (xA0.map Ce) (opn xD0) r.cmp r.fl k=(one (1=k) - one (0=k))*5:=fun k=>by
  have:byK (xA0.map Ce) (opn xD0) r.cmp r.fl k=0+(one (1=k) - one (0=k))*x 0:=by rw [hcmp,hx]; rfl
  rw [this,h5,Int.zero_add]
 refine ⟨hC,?_,?_⟩
 ·have hl:=(JH (r:=r) xa0 xd0).2.2
  refine List.ext_getElem? fun i=>?_
  match i with
  | 0=>rw [GC xa0 xd0 hC (k:=0) rfl,hby]; rfl
  | 1=>rw [GC xa0 xd0 hC (k:=1) rfl,hby]; rfl
  | i+2=>rw [List.getElem?_eq_none (by rw [hl]; simp),List.getElem?_eq_none (by simp)]
 ·unfold Dz
  rw [if_pos hC]
  show DW xD0 (r.fl.take 1)=_
  rw [OQ (by omega),← hx,h5]
  rfl
theorem Ta {r:Rnd} (P:PlanR xA1 xD1 true r):De xA1 xD1 r=0∧DY xA1 xD1 r=xA1∧Dz xA1 xD1 r=xD1:=by
 have hC:=Lv xb1 P
 have F:=E6 xa1 xd1 hC
 obtain ⟨p1,p2,p3,p4⟩:=Ea P
 have hes:r.es=[⟨0,1,4,-1⟩]:=P.es.trans (by decide)
 have hN:r.N=3:=P.N
 have hcmp:=P.cmp
 have hlen:r.fl.length=1:=by rw [F.len,hes]; rfl
 rw [hN,hes] at p3
 obtain ⟨x,hx⟩:∃ x,x=flE r.fl:=⟨_,rfl⟩
 rw [← hx] at p3
 have o0:=p3 0 (by decide)
 have e0:BA (grE 3 [⟨0,1,4,-1⟩]) x 0 = -(x 0):=by
  show 0+(0 - 1)*x 0=_
  omega
 have h5:x 0=0:=by rw [e0] at o0; omega
 have hby:∀ k,byK (xA1.map Ce) (opn xD1) r.cmp r.fl k=0:=fun k=>by
  have:byK (xA1.map Ce) (opn xD1) r.cmp r.fl k=0+(one (1=k) - one (0=k))*x 0:=by rw [hcmp,hx]; rfl
  rw [this,h5,Int.mul_zero]; rfl
 refine ⟨hC,?_,?_⟩
 ·have hl:=(JH (r:=r) xa1 xd1).2.2
  refine List.ext_getElem? fun i=>?_
  match i with
  | 0=>rw [GC xa1 xd1 hC (k:=0) rfl,hby]; rfl
  | 1=>rw [GC xa1 xd1 hC (k:=1) rfl,hby]; rfl
  | i+2=>rw [List.getElem?_eq_none (by rw [hl]; simp),List.getElem?_eq_none (by simp)]
 ·unfold Dz
  rw [if_pos hC]
  show DW xD1 (r.fl.take 1)=_
  rw [OQ (by omega),← hx,h5]
  rfl
/-- The round is none of now any more. -/
theorem Acb {r:Rnd} (P:PlanR xA0 xD0 false r):De xA1 xD1 r=3:=by
 have h:IC xA1 xD1 r=false:=by
  unfold IC
  rw [P.cmp,P.es]
  have:decide (BF (xA1.map Ce) (opn xD1) false=BF (xA0.map Ce) (opn xD0) false)=false:=by decide
  rw [this]
  simp
 unfold De
 rw [P.chk,if_neg (by decide),if_pos h]
set_option maxRecDepth 20000 in
set_option maxHeartbeats 4000000 in
theorem DO (w:World):Ret Tryz.prog 10 #[] w fun v w'=>v = .bool true∧Ext [] w w':=by
 obtain ⟨w0,rfl⟩:∃ w0,w0=w:=⟨_,rfl⟩
 have H:=Ctx.start w0 []
 refine A9 (fn:=Tryz.f10) Tryz.func10 rfl [] rfl (by kernel_rfl) ?_
 refine Af (Ai rfl rfl (Ab (Aa (Af (CE [.int .i64 5,.int .i64 0] rfl VX Hr (by kernel_rfl) ?_)))))
 refine CE [.int .i64 0,.int .i64 0] rfl VX Hr (by kernel_rfl) ?_
 refine J0 [.int .i64 5,.int .i64 0,.int .i64 0,.int .i64 0] rfl CL Dc Hr (by decide) (by decide) (by kernel_rfl) H ?_
 rintro b18 w - H
 refine Am rfl Zf (WQ _ 2 2 xA0 _ (Rd.of_bl (H.get at0) (r:=[]) rfl (fun _ _=>rfl)) rfl (by omega)) rfl ?_
 rintro v w ⟨p,rfl,-,hs,hx19⟩
 obtain ⟨bx,a,c,full,hp,i1,i2,i3,i4⟩:=hs xa0
 subst hp
 rw [xa0]
 replace H:=(H.callEnt (E:=(bx,Bl 116 [.slice a 2 c])::ent a 64 full) hx19 (fun x hx=>(List.mem_cons.1 hx).elim (fun h=>by subst h; exact ⟨i1,i4⟩) (fun h=>⟨(i3 x h).1,(i3 x h).2.1⟩)) (KQ fun x hx=>(i3 x hx).2.2)).right
 refine B9 rfl rfl (A3 rfl rfl rfl (A3 rfl rfl rfl (AW rfl rfl (Ae rfl rfl (Ab (Aa (Af (Am rfl ca_51 (Y9 _) rfl ?_))))))))
 rintro v w ⟨bd,b,o,rfl,hM,F⟩
 replace H:=H.callEnt F.ext (fun x hx=>⟨F.blk x hx,(F.own x hx).elim (fun h=>by cases h) id⟩) F.nd
 replace H:Ctx w0 [] w ([(bd,Bl 123 (DU b 1)),(b,o)]++((bx,Bl 116 [.slice a 2 c])::ent a 64 full)):=H.comm
 refine AW rfl rfl (Ab (Aa (Af (A2 rfl rfl (Am rfl ca_52 (YC (d:=⟨1,0,1,9,1,1,false⟩) _ (H.get at0) (H.get at1) hM (H.ne at0 at1 (by decide)) rfl rfl (by decide) (by decide) (by decide) (fun _ h=>by cases h) (by decide)) rfl ?_)))))
 rintro v w ⟨rfl,o1,hM1,H2⟩
 replace H:=Ctx.back (L1:=[_,_]) H H2
 replace H:Ctx w0 [] w ([]++(LX bx a xA0.length c full bd b 2 o1++[])):=H.perm (by rw [List.append_nil]; exact Aca _ _ _ _)
 refine B9 rfl rfl (A3 rfl rfl rfl (A3 rfl rfl rfl (Ae rfl rfl (Ae rfl rfl (Ab (Aa (An (Af (Ad rfl rfl (Cp rfl rfl rfl ?_))))))))))
 refine Aw rfl rfl (Ad rfl rfl (Cp rfl rfl rfl (A6 rfl rfl (.bool _) rfl (Ab (Aa (CJ rfl (Ao (Aa (Af (A2 rfl rfl (A2 rfl rfl ?_)))))))))))
 refine Am rfl LB (Ij xa0 xd0 xb0 false H i2 hM1) rfl ?_
 rintro v w ⟨r,q,rfl,P,RA,hoff,-,H37⟩
 obtain ⟨w37,rfl⟩:∃ z,z=w:=⟨_,rfl⟩
 obtain ⟨S37,hS37⟩:∃ S:List Nat,S=([]++(LX bx a xA0.length c full bd b 2 o1++[])).map (fun x:Nat × Obj=>x.1):=⟨_,rfl⟩
 rw [← hS37] at hoff
 have hoL:∀ (f:List Value) (p:Obj),ROff q r (·∈(LX bx a xA0.length c f bd b 2 p).map (·.1)):=fun f p=>hoff.mono fun x hx=>(by rw [hS37,List.nil_append,List.append_nil,X1 (g:=f) (p:=p)]; exact hx)
 have H:Ctx w37 S37 w37 ((bx,Bl 116 [.slice a 2 c])::(bd,Bl 123 (DU b 2))::(b,o1)::(ent a 64 full++[])):=by rw [hS37]; exact Ctx.lend (L2:=[]) (by rw [List.append_nil]; exact H37)
 refine B9 rfl rfl (A3 rfl rfl rfl (A3 rfl rfl rfl (Bj rfl II H ?_)))
 rintro b6 w - H
 refine B5 rfl DL rfl rfl rfl (by simp [Bm]) H at0 rfl ?_
 rintro w H
 refine Ae rfl rfl (Ab (Aa (Af (A2 rfl rfl (A2 rfl rfl (B6 rfl FN DL rfl H at0 rfl (Am rfl Qv (Ik (B:=[(b6,_)]) (R:=[]) xa0 xd0 H i2 hM1 (RA.ext H.ext hoff) (hoL _ _) (Jt P)) rfl ?_)))))))
 rintro v w ⟨rfl,full1,o2,O1,hM2,-,H⟩
 rw [(SZ P).1]
 rw [(SZ P).2.1] at O1
 rw [(SZ P).2.2] at hM2
 replace H:Ctx w37 S37 w ((b6,Bl 33 (Br r q))::(bx,Bl 116 [.slice a 2 c])::(bd,Bl 123 (DU b 2))::(b,o2)::(ent a 64 full1++[])):=H
 have RA1:Rd w a 2 CB xA1:=OS.rd O1 (fun x hx=>H.blk x (List.mem_append_right [_,_,_,_] (List.mem_append_left _ hx))) (fun _ _=>rfl) (by decide)
 refine Ae rfl rfl (Ab (Aa (Af (A2 rfl rfl (Am rfl ca_53 (YA a 2 c xA1 1 _ (H.get at1) RA1 rfl (by omega)) rfl ?_)))))
 rintro v w ⟨rfl,hx46⟩
 replace H:=H.call hx46
 rw [show getA xA1 1=⟨5,0⟩ from rfl]
 refine B9 rfl rfl (A3 rfl rfl rfl (A3 rfl rfl rfl (Bj rfl Hr H ?_)))
 rintro b9 w - H
 refine B5 rfl Dc rfl rfl rfl (by simp [Bm]) H at0 rfl ?_
 rintro w H
 refine Ai rfl rfl (Ab (Aa (Af (A2 rfl rfl (Am rfl Zg (TR (k:=1) _ (H.get at3) (H.get at4) hM2) rfl ?_)))))
 rintro v w ⟨rfl,hx51⟩
 replace H:=H.call hx51
 rw [show LL xD1 1=⟨1,0,1,4,1,1,false⟩ from rfl]
 refine B9 rfl rfl (A3 rfl rfl rfl (A3 rfl rfl rfl (Bj rfl Eh H ?_)))
 rintro b11 w - H
 refine B5 rfl B2 rfl rfl rfl (by simp [Bm]) H at0 rfl ?_
 rintro w H
 refine Ai rfl rfl (Ab (Aa (Af (A2 rfl rfl (A2 rfl rfl (Am rfl LB (Ij (B:=[_,_,_]) (R:=[]) xa1 xd1 xb1 true H O1 hM2) rfl ?_))))))
 rintro v w ⟨r',q',rfl,P',RA',hoff',-,H57⟩
 obtain ⟨no,day,cmp,ids,N,es,fl,pot⟩:=r'
 have hcmp:=P'.cmp
 dsimp only at hcmp
 subst hcmp
 obtain ⟨w57,rfl⟩:∃ z,z=w:=⟨_,rfl⟩
 obtain ⟨L57,hL57⟩:∃ L,L=[(b11,Bl 62 (Cf ⟨1,0,1,4,1,1,false⟩)),(b9,Bl 64 (CB ⟨5,0⟩)),(b6,Bl 33 (Br r q))]++(LX bx a xA1.length c full1 bd b 2 o2++[]):=⟨_,rfl⟩
 obtain ⟨S57,hS57⟩:∃ S:List Nat,S=L57.map (fun x:Nat × Obj=>x.1):=⟨_,rfl⟩
 replace H57:Ctx w37 S37 w57 (L57++[]):=by rw [hL57,List.append_nil]; exact H57
 replace hoff':ROff q' ⟨no,day,true,ids,N,es,fl,pot⟩ (·∈S57):=by rw [hS57,hL57]; exact hoff'
 have hoL':∀ (f:List Value) (p:Obj),ROff q' ⟨no,day,true,ids,N,es,fl,pot⟩ (·∈(LX bx a xA0.length c f bd b 2 p).map (·.1)):=fun f p=>hoff'.mono fun x hx=>(by rw [hS57,hL57,List.map_append,List.append_nil,X1 (g:=f) (p:=p)]; exact List.mem_append_right _ hx)
 have H:=Ctx.lend H57
 rw [← hS57,hL57] at H
 replace H:Ctx w57 S57 w57 ((b11,Bl 62 (Cf ⟨1,0,1,4,1,1,false⟩))::(b9,Bl 64 (CB ⟨5,0⟩))::(b6,Bl 33 (Br r q))::(bx,Bl 116 [.slice a 2 c])::(bd,Bl 123 (DU b 2))::(b,o2)::(ent a 64 full1++[])):=H
 refine B9 rfl rfl (A3 rfl rfl rfl (A3 rfl rfl rfl (Bj rfl II H ?_)))
 rintro b13 w - H
 refine B5 rfl DL rfl rfl rfl (by simp [Bm]) H at0 rfl ?_
 rintro w H
 refine Ae rfl rfl (Ab (Aa (Af (Ad rfl rfl (Cu rfl rfl rfl (Aw rfl rfl (Ad rfl rfl (Cu rfl rfl rfl (AA rfl rfl (.bool _) rfl (Aw rfl rfl ?_))))))))))
 refine Ah rfl EJ rfl (AN rfl Bt rfl H at2 rfl (Cu rfl rfl rfl (AA rfl rfl (.bool _) rfl (Aw rfl rfl (Ah rfl Dp rfl (AN rfl Bt rfl H at1 rfl (Cu rfl rfl rfl (AA rfl rfl (.bool _) rfl (Aw rfl rfl ?_)))))))))
 refine Ad rfl rfl (Cu rfl rfl rfl (AA rfl rfl (.bool _) rfl (Aw rfl rfl (Ah rfl Ma rfl (AN rfl Jf rfl H at0 rfl (AA rfl rfl (.bool _) rfl (Aw rfl rfl (A2 rfl rfl (A2 rfl rfl ?_)))))))))
 refine B6 rfl FN DL rfl H at0 rfl (Am rfl Qv (Ik (B:=[_,_,_,_]) (R:=[]) xa1 xd1 H O1 hM2 (RA'.ext H.ext hoff') (hoL' _ _) (Jt P')) rfl ?_)
 rintro v w ⟨rfl,full2,o3,O2,hM3,-,H⟩
 rw [(Ta P').1]
 rw [(Ta P').2.1] at O2
 rw [(Ta P').2.2] at hM3
 refine Cu rfl rfl rfl (AA rfl rfl (.bool _) rfl (Aw rfl rfl (A2 rfl rfl (A2 rfl rfl (B6 rfl FN DL rfl H at3 rfl (Am rfl Qv (Ik (B:=[_,_,_,_]) (R:=[]) xa1 xd1 H O2 hM3 (RA.ext (Ctx.back H57 (by rw [← hS57]; exact H)).ext hoff) (hoL _ _) (Jt P)) rfl ?_))))))
 rintro v w ⟨rfl,full3,o4,-,-,-,H⟩
 rw [Acb P]
 refine Cu rfl rfl rfl (AA rfl rfl (.bool _) rfl (Ai rfl rfl (Ab (Aa (A8 (AB (v:=(.bool _)) rfl rfl rfl ?_))))))
 rw [hS57] at H
 have HB:=Ctx.back H57 H
 rw [hS37] at HB
 exact ⟨rfl,(Ctx.back (L2:=[]) (by rw [List.append_nil]; exact H37) HB).ext⟩
end Go.Proofs.YtapphbmlkdhnmaaGreat

/- SettlePlays: a plan is the net of now with an accepted proof; any round is applied as the reference does. -/
namespace Go.Proofs.YtapphbmlkdhnmaaGreat
open Go.GV
attribute [local irreducible] AL W Wq Wt

/-- A plan, or none. -/
theorem OR {bx bd b c:Nat} {a:Option Addr} {full:List Value} {o:Obj} {acs:List Ac} {ds:List Du} {nx:Int} {w w0:World} {S:List Nat} {B R:List (Nat × Obj)} (ha:DB acs=0) (hd:ofC ds nx=0) (net:Bool) (H:Ctx w0 S w (B++(LX bx a acs.length c full bd b nx o++R))) (O:OS a acs.length c 2 full (acs.flatMap CB)) (hM:D8 .u64 (dm ds) o) :
  Ret Tryz.prog 12 #[ptr bx,ptr bd,.bool net] w fun v w'=>∃ r q code,v = .tuple #[.agg (Br r q).toArray,.int .i64 code] ∧
   ((CD (acs.map Ce) ds=false∧code=1)∨(CD (acs.map Ce) ds=true∧code=0∧PlanR acs ds net r∧RAt w' r q∧ROff q r (·∈(B++(LX bx a acs.length c full bd b nx o++R)).map (fun x:Nat × Obj=>x.1))))∧Ext [] w w':=by
 refine Ret.mono (TV ha hd net w (LX.ac (Ctx.in' H) O) (LX.du (Ctx.in' H) hM)) fun v w' h=>?_
 obtain ⟨hx,⟨h1,rfl⟩ | ⟨h1,r,q,h2,P,RA,hoff⟩⟩:=h
 ·exact ⟨⟨0,0,false,[],0,[],[],[]⟩,⟨none,0,none,0,none,0,none,0⟩,1,rfl,.inl ⟨h1,rfl⟩,hx⟩
 ·exact ⟨r,q,0,h2,.inr ⟨h1,rfl,P,RA,ROff.old H hoff⟩,hx⟩
def NetI (w0:World) (rs:List Int) (ds:List Du) (net:Bool) (z:NowZ) (w:World):Prop :=
 Ext [] w0 w∧w.heap[z.b]? = some (Bl 28 [.int .i64 z.N,.slice z.aE z.nE z.cE])∧SO w rs ds net z.N z.aE z.nE (.slice z.aI z.nI z.cI) z.code∧w0.heap.size≤z.b
abbrev encZ (p:Rnd × RSl):List Value:=Br p.1 p.2
structure LpZ where
 i:Nat
 acs:List Ac
 ds:List Du
 full:List Value
 o:Obj
 rfull:List Value
 ad:Option Addr
 cd:Nat
 fd:List Value
structure LpI (w9:World) (S9:List Nat) (B:List (Nat × Obj)) (bx:Nat) (a:Option Addr) (n c:Nat) (bd b:Nat) (nx:Int) (ba:Nat) (ra:Option Addr) (rc br:Nat) (z:LpZ) (w:World):Prop where
 i:z.i≤3
 ha:DB z.acs=0
 hd:ofC z.ds nx=0
 n:z.acs.length=n
 O:OS a z.acs.length c 2 z.full (z.acs.flatMap CB)
 M:D8 .u64 (dm z.ds) z.o
 RO:OS ra z.acs.length rc 2 z.rfull (z.acs.flatMap CB)
 RD:OS z.ad z.ds.length z.cd 7 z.fd (z.ds.flatMap Cf)
 H:Ctx w9 S9 w (B++(LX bx a z.acs.length c z.full bd b nx z.o++RX ba ra z.acs.length rc z.rfull br z.ad z.ds.length z.cd nx z.fd))
set_option maxRecDepth 20000 in
set_option maxHeartbeats 16000000 in
theorem Nx (a1 b1:Option Addr) (c1 e1:Nat) (acs:List Ac) (ds:List Du) (nx:Int) (net:Bool) (raw:Rnd) (qr:RSl) (w:World) (R1:Rd w a1 2 CB acs) (R2:Rd w b1 7 Cf ds) (hnx:0≤nx∧nx<18446744073709551616) (hid:∀ d∈ds,0≤d.id∧d.id<18446744073709551616) (RAw:RAt w raw qr) (hN:I64 raw.N) :
  Ret Tryz.prog 3 #[.slice a1 acs.length c1,.slice b1 ds.length e1,.int .u64 nx,.bool net,.agg (Br raw qr).toArray] w fun v w'=>v = .bool true∧Ext [] w w':=by
 obtain ⟨w0,rfl⟩:∃ w0,w0=w:=⟨_,rfl⟩
 have H:=Ctx.start w0 []
 refine A9 (fn:=Tryz.f3) Tryz.func3 rfl [.slice a1 acs.length c1,.slice b1 ds.length e1,.int .u64 nx,.bool net,.agg (Br raw qr).toArray] rfl (by kernel_rfl) ?_
 refine Af (BC rfl (Br raw qr) (.agg _) rfl rfl H ?_)
 rintro b9 w - H
 refine Ai rfl rfl (Ab (Aa (An (Af (BD (α:=Unit) 72057594004373504 (fun _=>[(55,.bool (((((decide (300<raw.es.length) || decide (300<raw.fl.length)) || decide (100<raw.pot.length)) || decide (300<raw.ids.length)) || decide (100<raw.N))))]) (fun _ w'=>Ctx w0 [] w' [(b9,Bl 33 (Br raw qr))]) rfl ?_ ?_)))))
 ·refine Ah rfl FD rfl (Ah rfl Cc rfl (AN rfl Dh rfl H at0 rfl (AV rfl C0 rfl (Ck rfl rfl rfl (Aw rfl rfl (AE 30 rfl ?_ ?_))))))
  ·intro h1
   replace h1:=AF h1
   refine Ag rfl (Ag rfl (Ag rfl (Ag rfl (Ag rfl (AA rfl rfl (.bool _) rfl (Aw rfl rfl (Ag rfl (Ag rfl (Ag rfl ?_)))))))))
   refine Ag rfl (Ag rfl (AA rfl rfl (.bool _) rfl (Aw rfl rfl (Ag rfl (Ag rfl (Ag rfl (Ag rfl (AA rfl rfl (.bool _) rfl (Aw rfl rfl ?_)))))))))
   refine Ag rfl (Ag rfl (Ag rfl (Ag rfl (AA rfl rfl (.bool _) rfl (Ab ?_)))))
   exact ⟨rfl,(),rfl,⟨congrArg Value.bool (by rw [Bool.eq_iff_iff]; simp_all; omega),trivial⟩,H⟩
  ·intro h2
   replace h2:=AG h2
   refine Ah rfl FE rfl (Ah rfl FC rfl (AN rfl BX rfl H at0 rfl (AV rfl AO rfl (Ck rfl rfl rfl (A6 rfl rfl (.bool _) rfl (Aw rfl rfl (AE 37 rfl ?_ ?_)))))))
   ·intro h3
    replace h3:=AF h3
    refine Ag rfl (Ag rfl (Ag rfl (Ag rfl (Ag rfl (AA rfl rfl (.bool _) rfl (Aw rfl rfl (Ag rfl (Ag rfl (Ag rfl ?_)))))))))
    refine Ag rfl (AA rfl rfl (.bool _) rfl (Aw rfl rfl (Ag rfl (Ag rfl (Ag rfl (Ag rfl (AA rfl rfl (.bool _) rfl (Ab ?_))))))))
    exact ⟨rfl,(),rfl,⟨congrArg Value.bool (by rw [Bool.eq_iff_iff]; simp_all; omega),trivial⟩,H⟩
   ·intro h4
    replace h4:=AG h4
    refine Ah rfl FE rfl (Ah rfl K8 rfl (AN rfl BX rfl H at0 rfl (AV rfl AO rfl (Ck rfl rfl rfl (A6 rfl rfl (.bool _) rfl (Aw rfl rfl (AE 44 rfl ?_ ?_)))))))
    ·intro h5
     replace h5:=AF h5
     refine Ag rfl (Ag rfl (Ag rfl (Ag rfl (AA rfl rfl (.bool _) rfl (Aw rfl rfl (Ag rfl (Ag rfl (Ag rfl (Ag rfl ?_)))))))))
     refine AA rfl rfl (.bool _) rfl (Ab ?_)
     exact ⟨rfl,(),rfl,⟨congrArg Value.bool (by rw [Bool.eq_iff_iff]; simp_all; omega),trivial⟩,H⟩
    ·intro h6
     replace h6:=AG h6
     refine Ah rfl Ix rfl (AN rfl K3 rfl H at0 rfl (AV rfl Bz rfl (Ck rfl rfl rfl (A6 rfl rfl (.bool _) rfl (Aw rfl rfl (AE 50 rfl ?_ ?_))))))
     ·intro h7
      replace h7:=AF h7
      refine Ag rfl (Ag rfl (Ag rfl (Ag rfl (AA rfl rfl (.bool _) rfl (Ab ?_)))))
      exact ⟨rfl,(),rfl,⟨congrArg Value.bool (by rw [Bool.eq_iff_iff]; simp_all; omega),trivial⟩,H⟩
     ·intro h8
      replace h8:=AG h8
      refine Ah rfl FD rfl (Ah rfl D5 rfl (AN rfl BV rfl H at0 rfl (Ck rfl rfl rfl (A6 rfl rfl (.bool _) rfl (Ab ?_)))))
      exact ⟨rfl,(),rfl,⟨congrArg Value.bool (by rw [Bool.eq_iff_iff]; simp_all; omega),trivial⟩,H⟩
 rintro - j55 w H
 refine Aq _ rfl ?_ ?_
 ·intro h1
  refine Af (Am rfl Jg (DO _) rfl ?_)
  rintro v w ⟨rfl,hx56⟩
  replace H:=H.call hx56
  refine Ai rfl rfl (Ab (Aa (A8 (Al (AB (v:=(.bool _)) rfl rfl rfl ?_)))))
  exact ⟨rfl,H.ext⟩
 ·intro h1
  simp only [Bool.or_eq_false_iff,decide_eq_false_iff_not,Nat.not_lt,Int.not_lt] at h1
  obtain ⟨⟨⟨⟨h1e,h1f⟩,h1p⟩,h1i⟩,h1N⟩:=h1
  have hraw:RBnd raw:=⟨hN,by omega,by omega,by omega,by omega⟩
  refine Ao (Aa (Af (Aj rfl rfl (Aj rfl rfl (Ad rfl rfl (Am rfl Tw (JI a1 b1 _ c1 _ e1 acs ds nx _ (R1.ext0 H.ext) rfl (R2.ext0 H.ext) rfl hnx hid) rfl ?_))))))
  rintro v w hB
  obtain ⟨p1,p2,p3,p4,is,rfl,hx61,hB⟩:=BothRes.uni' hB FV
  refine B9 rfl rfl (A3 rfl rfl rfl (A3 rfl rfl rfl (A3 rfl rfl rfl (A3 rfl rfl rfl (A3 rfl rfl rfl (AW rfl rfl (AW rfl rfl (AW rfl rfl (AW rfl rfl ?_)))))))))
  refine Ai rfl rfl (Ab (Aa (An (Af (Aw rfl rfl (B1 rfl rfl (Ab (Aa (Aq _ rfl ?_ ?_)))))))))
  ·intro h2
   replace h2:=Bv h2
   replace H:=H.call hx61
   refine Af (Am rfl Jg (DO _) rfl ?_)
   rintro v w ⟨rfl,hx69⟩
   replace H:=H.call hx69
   refine Ai rfl rfl (Ab (Aa (A8 (Al (AB (v:=(.bool _)) rfl rfl rfl ?_)))))
   exact ⟨rfl,H.ext⟩
  ·intro h2
   replace h2:=Bw h2
   have h2':is=true:=by simpa using h2
   obtain ⟨ha,hd,z,rfl,rfl,rfl,rfl,hz,HL⟩:=hB h2'
   obtain ⟨bx,a,c,full,bd,b,o,ba,ra,rc,rfull,br,ad,cd,fd⟩:=z
   dsimp only [Four.L] at HL ⊢
   obtain ⟨hO,hM,hRO,hRD⟩:=hz
   dsimp only at hO hM hRO hRD
   have hn16:=(Dy.1 ha).1
   have hm64:=(D7.1 hd).1
   replace H:=H.callEnt HL.ext (fun x hx=>⟨HL.blk x hx,(HL.own x hx).elim (fun h=>by cases h) id⟩) HL.nd
   clear HL
   obtain ⟨rs,hrs⟩:∃ rs,rs=acs.map Ce:=⟨_,rfl⟩
   have hrl:rs.length=acs.length:=by rw [hrs,List.length_map]
   refine Ao (Aa (An (Af (A2 rfl rfl (CK rfl MQ rfl ?_)))))
   refine Aw rfl rfl (A2 rfl rfl (CK rfl K9 rfl ?_))
   refine A6 rfl rfl (.bool _) rfl (Ab (Aa (CJ rfl (Ao (Aa (Af (A2 rfl rfl (A2 rfl rfl (Aw rfl rfl (Am rfl LB (OR (B:=[_]) ha hd net H hO hM) rfl ?_))))))))))
   rintro v w80 ⟨r,q,code,rfl,hP,hx80⟩
   have H80:=H.call hx80
   have H:=Ctx.lend (L2:=[]) (show Ctx w0 [] w80 (([(b9,Bl 33 (Br raw qr))]++(LX bx a acs.length c full bd b nx o++RX ba ra acs.length rc rfull br ad ds.length cd nx fd))++[]) by rw [List.append_nil]; exact H80)
   obtain ⟨S80,hS80⟩:∃ S:List Nat,S=([(b9,Bl 33 (Br raw qr))]++(LX bx a acs.length c full bd b nx o++RX ba ra acs.length rc rfull br ad ds.length cd nx fd)).map (fun x:Nat × Obj=>x.1):=⟨_,rfl⟩
   rw [← hS80] at H hP
   replace H:Ctx w80 S80 w80 ([(b9,Bl 33 (Br raw qr))]++(LX bx a acs.length c full bd b nx o++RX ba ra acs.length rc rfull br ad ds.length cd nx fd)):=H
   refine B9 rfl rfl (A3 rfl rfl rfl (A3 rfl rfl rfl (Bj rfl II H ?_)))
   rintro b16 w - H
   refine B5 rfl DL rfl rfl rfl (by simp [Bm]) H at0 rfl ?_
   rintro w H
   refine Ae rfl rfl (Ab (Aa ?_))
   replace H:Ctx w80 S80 _ ([(b16,Bl 33 (Br r q)),(b9,Bl 33 (Br raw qr))]++(LX bx a acs.length c full bd b nx o++RX ba ra acs.length rc rfull br ad ds.length cd nx fd)):=H
   have hfin:∀ (w':World) (L:List (Nat × Obj)),Ctx w80 S80 w' L→Ext [] w0 w':=fun w' L h=>by
    rw [hS80] at h
    exact (Ctx.back (L2:=[]) (show Ctx w0 [] w80 (([(b9,Bl 33 (Br raw qr))]++(LX bx a acs.length c full bd b nx o++RX ba ra acs.length rc rfull br ad ds.length cd nx fd))++[]) by rw [List.append_nil]; exact H80) h).ext
   have H5:=H
   have HR:=(Ctx.right (L:=[_,_]) H).right
   have AR:=RX.ac HR hRO
   have hbr:=HR.get at1
   have RRd:=OS.rd hRD (fun x hx=>HR.blk x (List.mem_cons_of_mem _ (List.mem_cons_of_mem _ (List.mem_append_left _ hx)))) (fun _ _=>rfl) (by decide)
   obtain ⟨w5,rfl⟩:∃ z,z=w:=⟨_,rfl⟩
   refine El 39604409850575251763376160768 (α:=NowZ) (fun z=>[(18,ptr z.b),(19,.slice z.aI z.nI z.cI),(20,.int .i64 z.code)]) (NetI w5 rs ds net) rfl ?_ ?_
   ·skip
    clear H
    refine Ti (.two [0,2,3,4,5,6] 1 (.two [] 7 (.one [8,9,10,11] 12 (.one [] 13 (.one [] 14 (.one [] 15 .stop)))) 12 (.one [] 7 (.one [8,9,10,11] 13 (.one [] 14 (.one [] 15 .stop))))) 12 (.one [] 1 (.one [] 7 (.one [8,9,10,11] 13 (.one [] 14 (.one [] 15 .stop)))))) (fun z=>Ext [] w5 z) B0 (by kernel_rfl) (Ext.drew [] w5) ?_
    refine IY rfl rfl rfl ?_
    refine Ch rfl rfl (Ch rfl rfl (B3 rfl rfl (AH rfl Ec rfl (BP rfl Gw rfl (fun _ hx=>(by rw [Ay (hx.to hbr (by simp))]; rfl)) ?_))))
    refine CU rfl rfl (Ba ?_)
    have E:=Ext.drew [] w5
    refine ⟨?_,?_⟩
    ·skip
     refine Am rfl Tx (IE ha _ (AR.ext0 E)) rfl ?_
     rintro v w ⟨hx85,a2,c2,rfl,R2⟩
     rw [← hrs] at R2 ⊢
     replace E:=E.trans hx85
     refine Ab (Ci (by exact E) ?_)
     refine IY rfl rfl rfl ?_
     refine Ba ?_
     refine ⟨?_,?_⟩
     ·skip
      refine Am rfl NY (F5 a2 ad _ c2 _ cd rs ds net _ R2 rfl (by omega) (RRd.ext0 E) rfl (by omega)) rfl ?_
      rintro v w hR
      obtain ⟨hx91,N,aE,nE,cE,aI,nI,cI,code',rfl,hU⟩:=hR.uni
      replace E:=E.trans hx91
      refine Ab (Ci (by exact E) ?_)
      refine Cg rfl rfl ?_
      refine Fo rfl rfl (BM rfl rfl rfl (BM rfl rfl rfl (BM rfl rfl rfl (Ba ?_))))
      have H:=Ctx.start w []
      refine Bj rfl FO H ?_
      rintro b18 w - H
      refine Ab (Ci (by exact E.trans H.ext) ?_)
      refine Cg rfl rfl ?_
      refine Ba (B5 rfl BQ rfl rfl rfl (by simp [Bm]) H at0 rfl ?_)
      rintro w H
      refine Ab (Ci (by exact E.trans H.ext) ?_)
      refine Cg rfl rfl ?_
      refine Ba (Az rfl rfl (Ab (Ci (by exact E.trans H.ext) ?_)))
      refine Cg rfl rfl ?_
      refine Ba (Ae rfl rfl (Ab (Ci (by exact E.trans H.ext) ?_)))
      refine Fm ?_
      refine Aa ?_
      exact ⟨⟨b18,N,aE,nE,cE,aI,nI,cI,code'⟩,rfl,⟨rfl,rfl,rfl,trivial⟩,E.trans H.ext,H.get at0,hU [] _ (by simp) H.ext,Nat.le_trans E.size ((H.own _ (List.mem_cons_self ..)).elim (fun h=>by cases h) id)⟩
     ·skip
      have H:=Ctx.start w []
      refine Bj rfl FO H ?_
      rintro b18 w - H
      have hn7:w5.heap.size≤b18:=Nat.le_trans E.size ((H.own _ (List.mem_cons_self ..)).elim (fun h=>by cases h) id)
      replace E:=E.trans H.ext
      have hb18:=H.get at0
      replace R2:=R2.ext0 H.ext
      refine Ab (Ci (by exact E) ?_)
      refine Cg rfl rfl ?_
      refine Ba ?_
      have hl7:=Bp hb18
      refine Am rfl NY (F5 a2 ad _ c2 _ cd rs ds net _ R2 rfl (by omega) (RRd.ext0 E) rfl (by omega)) rfl ?_
      rintro v w hR
      obtain ⟨hx91,N,aE,nE,cE,aI,nI,cI,code',rfl,hU⟩:=hR.uni
      replace E:=E.trans hx91
      replace hb18:=hx91.to hb18 (by simp)
      have H:=Ctx.start1 hb18
      refine Ab (Ci (by exact E) ?_)
      refine Cg rfl rfl ?_
      refine Fo rfl rfl (BM rfl rfl rfl (BM rfl rfl rfl (BM rfl rfl rfl (Ba (B5 rfl BQ rfl rfl rfl (by simp [Bm]) H at0 rfl ?_)))))
      rintro w H
      refine Ab (Ci (by exact E.then H.ext (fun x hx => .inr (by rw [List.mem_singleton.1 hx]; exact hn7))) ?_)
      refine Cg rfl rfl ?_
      refine Ba (Az rfl rfl (Ab (Ci (by exact E.then H.ext (fun x hx => .inr (by rw [List.mem_singleton.1 hx]; exact hn7))) ?_)))
      refine Cg rfl rfl ?_
      refine Ba (Ae rfl rfl (Ab (Ci (by exact E.then H.ext (fun x hx => .inr (by rw [List.mem_singleton.1 hx]; exact hn7))) ?_)))
      refine Fm ?_
      refine Aa ?_
      have E2:=E.then H.ext fun x hx => .inr (by rw [List.mem_singleton.1 hx]; exact hn7)
      exact ⟨⟨b18,N,aE,nE,cE,aI,nI,cI,code'⟩,rfl,⟨rfl,rfl,rfl,trivial⟩,E2,H.get at0,hU [b18] _ (by simpa using hl7) H.ext,hn7⟩
    ·skip
     have H:=Ctx.start (World.drew w5) []
     refine Bj rfl FO H ?_
     rintro b18 w - H
     have hn7:w5.heap.size≤b18:=Nat.le_trans E.size ((H.own _ (List.mem_cons_self ..)).elim (fun h=>by cases h) id)
     replace E:=E.trans H.ext
     have hb18:=H.get at0
     refine Ab (Ci (by exact E) ?_)
     refine Cg rfl rfl ?_
     refine Ba (Am rfl Tx (IE ha _ (AR.ext0 E)) rfl ?_)
     rintro v w ⟨hx85,a2,c2,rfl,R2⟩
     rw [← hrs] at R2 ⊢
     replace E:=E.trans hx85
     replace hb18:=hx85.to hb18 (by simp)
     refine Ab (Ci (by exact E) ?_)
     refine Cg rfl rfl ?_
     refine Ba ?_
     have hl7:=Bp hb18
     refine Am rfl NY (F5 a2 ad _ c2 _ cd rs ds net _ R2 rfl (by omega) (RRd.ext0 E) rfl (by omega)) rfl ?_
     rintro v w hR
     obtain ⟨hx91,N,aE,nE,cE,aI,nI,cI,code',rfl,hU⟩:=hR.uni
     replace E:=E.trans hx91
     replace hb18:=hx91.to hb18 (by simp)
     have H:=Ctx.start1 hb18
     refine Ab (Ci (by exact E) ?_)
     refine Cg rfl rfl ?_
     refine Fo rfl rfl (BM rfl rfl rfl (BM rfl rfl rfl (BM rfl rfl rfl (Ba (B5 rfl BQ rfl rfl rfl (by simp [Bm]) H at0 rfl ?_)))))
     rintro w H
     refine Ab (Ci (by exact E.then H.ext (fun x hx => .inr (by rw [List.mem_singleton.1 hx]; exact hn7))) ?_)
     refine Cg rfl rfl ?_
     refine Ba (Az rfl rfl (Ab (Ci (by exact E.then H.ext (fun x hx => .inr (by rw [List.mem_singleton.1 hx]; exact hn7))) ?_)))
     refine Cg rfl rfl ?_
     refine Ba (Ae rfl rfl (Ab (Ci (by exact E.then H.ext (fun x hx => .inr (by rw [List.mem_singleton.1 hx]; exact hn7))) ?_)))
     refine Fm ?_
     refine Aa ?_
     have E2:=E.then H.ext fun x hx => .inr (by rw [List.mem_singleton.1 hx]; exact hn7)
     exact ⟨⟨b18,N,aE,nE,cE,aI,nI,cI,code'⟩,rfl,⟨rfl,rfl,rfl,trivial⟩,E2,H.get at0,hU [b18] _ (by simpa using hl7) H.ext,hn7⟩
   ·rintro ⟨b18,N,aE,nE,cE,aI,nI,cI,code'⟩ j1 w ⟨hx9,hb18,hU,hn18⟩; dsimp only at hx9 hb18 hU hn18; dsimp only
    clear HR AR hbr RRd
    replace H:Ctx w80 S80 _ ([(b18,Bl 28 [.int .i64 N,.slice aE nE cE]),(b16,Bl 33 (Br r q)),(b9,Bl 33 (Br raw qr))]++(LX bx a acs.length c full bd b nx o++RX ba ra acs.length rc rfull br ad ds.length cd nx fd)):=(H5.call hx9).add hb18 (.inr (Nat.le_trans H5.size hn18)) (fun x hx=>by have:=Bp (H5.blk x hx); omega)
    rcases hP with ⟨hbb,rfl⟩ | ⟨hbb,rfl,P,RA,hoff⟩
    ·skip
     obtain rfl:code'=1:=by
      rcases hU with ⟨-,h,-⟩ | ⟨h,-⟩
      ·exact h
      ·rw [hrs,hbb] at h; cases h
     obtain ⟨w1,rfl⟩:∃ z,z=w:=⟨_,rfl⟩
     have HG:=H
     have HX:=(Ctx.right (L:=[_,_,_]) H).left
     have HR:=(Ctx.right (L:=[_,_,_]) H).right
     have hbx:=HX.get at0
     have hba:=HR.get at0
     have hbr:=HR.get at1
     have RXa:Rd w1 a 2 CB acs:=OS.rd hO (fun x hx=>HX.blk x (List.mem_cons_of_mem _ (List.mem_cons_of_mem _ (List.mem_cons_of_mem _ hx)))) (fun _ _=>rfl) (by decide)
     have RRa:Rd w1 ra 2 CB acs:=OS.rd hRO (fun x hx=>HR.blk x (List.mem_cons_of_mem _ (List.mem_cons_of_mem _ (List.mem_append_right _ hx)))) (fun _ _=>rfl) (by decide)
     have RRd:Rd w1 ad 7 Cf ds:=OS.rd hRD (fun x hx=>HR.blk x (List.mem_cons_of_mem _ (List.mem_cons_of_mem _ (List.mem_append_left _ hx)))) (fun _ _=>rfl) (by decide)
     have DU1:DuAt w1 bd ds:=LX.du HX hM
     have H:=Ctx.start w1 []
     refine An (CP [([0,1,2,3,4,6,7,8,9],5),([],10),([11,12,13,14,16,17,18,19],15),([],20),([21],22)] (fun z=>Ext [] w1 z) [] B0 (by kernel_rfl) (Ext.drew [] w1) ?_)
     refine AU rfl rfl ?_
     refine AS rfl rfl (AS rfl rfl (L7 rfl rfl rfl (CU rfl rfl (Ch rfl rfl (Ch rfl rfl (B3 rfl rfl (AH rfl FG rfl (BP rfl GK rfl (fun _ hx=>(by rw [Ay (hx.to hba (by simp))]; rfl)) ?_))))))))
     refine Ba ?_
     replace H:=H.drew
     refine Am rfl NZ (Ib (bd:=bx) a _ c acs _ (H.ext.to hbx (by simp)) (RXa.ext0 H.ext) rfl (by omega)) rfl ?_
     rintro v w Fl
     obtain ⟨al,nl,cl,fl7,rfl,Ol,hbl⟩:=Fl.ex
     obtain rfl:=Ol.numN (fun _ _=>rfl) (by decide)
     replace H:=H.call Fl.ext
     have Rl:Rd w al 2 CB acs:=OS.rd Ol (fun x hx=>(hbl x hx).1) (fun _ _=>rfl) (by decide)
     refine Ab (BL (H.ext) (AU rfl rfl ?_))
     refine Ba (Am rfl VB (Lt al ra _ cl _ rc acs acs _ (Rl.ext0 (Ext.refl _ _)) rfl (by omega) (RRa.ext0 H.ext) rfl (by omega)) rfl ?_)
     rintro v w ⟨rfl,hxs⟩
     replace H:=H.call hxs
     rw [show decide (acs=acs)=true from decide_eq_true rfl]
     refine Ab (BL (H.ext) (AU rfl rfl ?_))
     refine M9 rfl rfl (G0 rfl rfl (.bool _) rfl (CU rfl rfl (Ch rfl rfl (Ch rfl rfl (B3 rfl rfl (AH rfl Ec rfl (BP rfl Gw rfl (fun _ hx=>(by rw [Ay (hx.to hbr (by simp))]; rfl)) ?_)))))))
     refine Ba (Am rfl K4 (FI hd _ (DU1.ext0 H.ext)) rfl ?_)
     rintro v w ⟨hxd,a3,c3,rfl,Rd3⟩
     replace H:=H.call hxd
     refine Ab (BL (H.ext) (AU rfl rfl ?_))
     refine Ba (Am rfl VG (Lu a3 ad _ c3 _ cd ds ds _ Rd3 rfl (by omega) (RRd.ext0 H.ext) rfl (by omega)) rfl ?_)
     rintro v w ⟨rfl,hxs⟩
     replace H:=H.call hxs
     rw [show decide (ds=ds)=true from decide_eq_true rfl]
     refine Ab (BL (H.ext) (AU rfl rfl ?_))
     refine M9 rfl rfl (Ba (A6 rfl rfl (.bool _) rfl (Ab (BL (H.ext) (BO (CJ rfl (Ao (Aa (An ?_)))))))))
     have H:=HG.call H.ext
     refine Af (Ad rfl rfl (Cp rfl rfl rfl (Ab (Aa (Dj rfl (Af (Am rfl Jg (DO _) rfl ?_)))))))
     rintro v w ⟨rfl,hx120⟩
     replace H:=H.call hx120
     refine Ai rfl rfl (Ab (Aa (A8 (Al (AB (v:=(.bool _)) rfl rfl rfl ?_)))))
     exact ⟨rfl,hfin _ _ H⟩
    ·skip
     rcases hU with ⟨h,-⟩ | ⟨-,rfl,hNN,hnE,RE,aI',cI',hI,RI⟩
     ·rw [hrs,hbb] at h; cases h
     cases hI
     obtain rfl:N=r.N:=by rw [hNN,P.N,hrl]
     have hes:BF rs (opn ds) net=r.es:=by rw [P.es,hrs]
     rw [hes] at hnE RE
     subst hnE
     have hr:=Jt P
     obtain ⟨w1,rfl⟩:∃ z,z=w:=⟨_,rfl⟩
     have HG:=H
     have HX:=(Ctx.right (L:=[_,_,_]) H).left
     have HR:=(Ctx.right (L:=[_,_,_]) H).right
     have hbx:=HX.get at0
     have hba:=HR.get at0
     have hbr:=HR.get at1
     have RXa:Rd w1 a 2 CB acs:=OS.rd hO (fun x hx=>HX.blk x (List.mem_cons_of_mem _ (List.mem_cons_of_mem _ (List.mem_cons_of_mem _ hx)))) (fun _ _=>rfl) (by decide)
     have RRa:Rd w1 ra 2 CB acs:=OS.rd hRO (fun x hx=>HR.blk x (List.mem_cons_of_mem _ (List.mem_cons_of_mem _ (List.mem_append_right _ hx)))) (fun _ _=>rfl) (by decide)
     have RRd:Rd w1 ad 7 Cf ds:=OS.rd hRD (fun x hx=>HR.blk x (List.mem_cons_of_mem _ (List.mem_cons_of_mem _ (List.mem_append_left _ hx)))) (fun _ _=>rfl) (by decide)
     have DU1:DuAt w1 bd ds:=LX.du HX hM
     have H:=Ctx.start w1 []
     refine An (CP [([0,1,2,3,4,6,7,8,9],5),([],10),([11,12,13,14,16,17,18,19],15),([],20),([21],22)] (fun z=>Ext [] w1 z) [] B0 (by kernel_rfl) (Ext.drew [] w1) ?_)
     refine AU rfl rfl ?_
     refine AS rfl rfl (AS rfl rfl (L7 rfl rfl rfl (CU rfl rfl (Ch rfl rfl (Ch rfl rfl (B3 rfl rfl (AH rfl FG rfl (BP rfl GK rfl (fun _ hx=>(by rw [Ay (hx.to hba (by simp))]; rfl)) ?_))))))))
     refine Ba ?_
     replace H:=H.drew
     refine Am rfl NZ (Ib (bd:=bx) a _ c acs _ (H.ext.to hbx (by simp)) (RXa.ext0 H.ext) rfl (by omega)) rfl ?_
     rintro v w Fl
     obtain ⟨al,nl,cl,fl7,rfl,Ol,hbl⟩:=Fl.ex
     obtain rfl:=Ol.numN (fun _ _=>rfl) (by decide)
     replace H:=H.call Fl.ext
     have Rl:Rd w al 2 CB acs:=OS.rd Ol (fun x hx=>(hbl x hx).1) (fun _ _=>rfl) (by decide)
     refine Ab (BL (H.ext) (AU rfl rfl ?_))
     refine Ba (Am rfl VB (Lt al ra _ cl _ rc acs acs _ (Rl.ext0 (Ext.refl _ _)) rfl (by omega) (RRa.ext0 H.ext) rfl (by omega)) rfl ?_)
     rintro v w ⟨rfl,hxs⟩
     replace H:=H.call hxs
     rw [show decide (acs=acs)=true from decide_eq_true rfl]
     refine Ab (BL (H.ext) (AU rfl rfl ?_))
     refine M9 rfl rfl (G0 rfl rfl (.bool _) rfl (CU rfl rfl (Ch rfl rfl (Ch rfl rfl (B3 rfl rfl (AH rfl Ec rfl (BP rfl Gw rfl (fun _ hx=>(by rw [Ay (hx.to hbr (by simp))]; rfl)) ?_)))))))
     refine Ba (Am rfl K4 (FI hd _ (DU1.ext0 H.ext)) rfl ?_)
     rintro v w ⟨hxd,a3,c3,rfl,Rd3⟩
     replace H:=H.call hxd
     refine Ab (BL (H.ext) (AU rfl rfl ?_))
     refine Ba (Am rfl VG (Lu a3 ad _ c3 _ cd ds ds _ Rd3 rfl (by omega) (RRd.ext0 H.ext) rfl (by omega)) rfl ?_)
     rintro v w ⟨rfl,hxs⟩
     replace H:=H.call hxs
     rw [show decide (ds=ds)=true from decide_eq_true rfl]
     refine Ab (BL (H.ext) (AU rfl rfl ?_))
     refine M9 rfl rfl (Ba (A6 rfl rfl (.bool _) rfl (Ab (BL (H.ext) (BO (CJ rfl (Ao (Aa (An ?_)))))))))
     have hxw:=H.ext
     have H:Ctx w80 S80 _ ((b18,Bl 28 [.int .i64 r.N,.slice aE r.es.length cE])::(b16,Bl 33 (Br r q))::(b9,Bl 33 (Br raw qr))::(LX bx a acs.length c full bd b nx o++RX ba ra acs.length rc rfull br ad ds.length cd nx fd)):=HG.call hxw
     have REw:=RE.ext0 hxw
     obtain ⟨w10,rfl⟩:∃ z,z=w:=⟨_,rfl⟩
     have hre:∀ (w':World),Ctx w80 S80 w' ((b18,Bl 28 [.int .i64 r.N,.slice aE r.es.length cE])::(b16,Bl 33 (Br r q))::(b9,Bl 33 (Br raw qr))::(LX bx a acs.length c full bd b nx o++RX ba ra acs.length rc rfull br ad ds.length cd nx fd))→RAt w' r q:=fun w' h=>RA.ext h.ext hoff
     refine Af (Ad rfl rfl (Cp rfl rfl rfl (Ab (Aa (CJ rfl (Ao (Aa (An (Af (Ah rfl XR rfl (AN rfl BK rfl H at1 rfl ?_)))))))))))
     refine Cp rfl rfl rfl ?_
     rw [P.no]
     refine Aw rfl rfl (Ah rfl XS rfl (AN rfl Bt rfl H at1 rfl (Cp rfl rfl rfl ?_)))
     rw [P.day]
     refine A6 rfl rfl (.bool _) rfl (Aw rfl rfl (Ah rfl Ma rfl (AN rfl Jf rfl H at1 rfl (Aw rfl rfl (XL un_4 rfl rfl rfl ?_)))))
     rw [P.cmp,show (!(net == net))=false from by simp]
     refine A6 rfl rfl (.bool _) rfl (Aw rfl rfl (Ah rfl FD rfl (Cv _ rfl Cm BQ rfl rfl ((Dr (b:=b16) (t:=33) (l:=Br r q) (H.get at1) 4 [.int .i64 r.N,.slice q.aE r.es.length q.cE] rfl)) ?_)))
     refine Cv _ rfl Cm BQ rfl rfl ((Dr (b:=b18) (t:=28) (l:=[.int .i64 r.N,.slice aE r.es.length cE]) (H.get at0) 0 [.int .i64 r.N,.slice aE r.es.length cE] rfl)) ?_
     refine Am rfl Za (Nw r.N r.N q.aE aE _ q.cE _ cE r.es r.es _ (hre _ H).E rfl hr.es REw rfl hr.es) rfl ?_
     rintro v w ⟨rfl,hx139⟩
     replace H:=H.call hx139
     rw [show Nv r.N r.N r.es r.es=true from by unfold Nv; simp]
     replace REw:=REw.ext0 hx139
     refine B1 rfl rfl (A6 rfl rfl (.bool _) rfl (Aw rfl rfl (Ah rfl Ix rfl (AN rfl K3 rfl H at1 rfl (AV rfl Bz rfl (Aj rfl rfl (AV rfl Bz rfl (Cp rfl rfl rfl ?_))))))))
     rw [show (!decide ((r.ids.length:Int)=(((opn ds).map Du.id).length:Int)))=false from by rw [P.ids]; simp]
     refine A6 rfl rfl (.bool _) rfl (Aw rfl rfl (Cv _ rfl Cm BQ rfl rfl ((Dr (b:=b18) (t:=28) (l:=[.int .i64 r.N,.slice aE r.es.length cE]) (H.get at0) 0 [.int .i64 r.N,.slice aE r.es.length cE] rfl)) ?_))
     refine Ah rfl FE rfl (Cv _ rfl NX LC rfl rfl ((Dr (b:=b16) (t:=33) (l:=Br r q) (H.get at1) 6 [.slice q.aF r.fl.length q.cF,.slice q.aP r.pot.length q.cP] rfl)) ?_)
     refine Am rfl Zb (LN r.N aE q.aF q.aP _ cE _ q.cF _ q.cP r.es r.fl r.pot _ REw rfl hr.es (hre _ H).F rfl hr.fl (hre _ H).P rfl hr.pot) rfl ?_
     rintro v w ⟨rfl,hx154⟩
     replace H:=H.call hx154
     rw [P.chk]
     refine B1 rfl rfl (A6 rfl rfl (.bool _) rfl (Ab (Aa (CJ rfl (Ao (Aa (Af (B6 rfl FN DL rfl H at2 rfl (B6 rfl FN DL rfl H at1 rfl (B6 rfl FN DL rfl H at1 rfl (J0 (Br raw qr++(Br r q++Br r q)) rfl Tz DL II (by decide) (by decide) (by kernel_rfl) H ?_)))))))))))
     rintro b160 w - H
     refine Az rfl rfl (Ab (Aa (An (Af (Ae rfl rfl (Ab (Aa (Au ?_))))))))
     clear hre REw
     have hraw0:ROff qr raw (fun x=>x∈S80∨w80.heap.size≤x):=(RAw.lt).mono fun x hx=>by
      rcases hx with hx | hx
      ·rw [hS80] at hx
       obtain ⟨y,hy,rfl⟩:=List.mem_map.1 hx
       exact (H80.own y hy).elim (fun h=>by cases h) id
      ·exact Nat.le_trans H80.size hx
     have hZ:∀ p∈[(raw,qr),(r,q),(r,q)],RBnd p.1∧RAt w80 p.1 p.2∧ROff p.2 p.1 (fun x=>x∈S80∨w80.heap.size≤x):=fun p hp=>by
      simp only [List.mem_cons,List.not_mem_nil,or_false] at hp
      rcases hp with rfl | rfl | rfl
      ·exact ⟨hraw,RAw.ext0 H80.ext,hraw0⟩
      ·exact ⟨hr,RA,hoff.or RA.lt⟩
      ·exact ⟨hr,RA,hoff.or RA.lt⟩
     refine Bf 25711008708140921405396731671622194270689815334485373529097216 (α:=LpZ) (fun t=>[(22,.int .i64 (t.i:Int))]) (fun t w'=>LpI w80 S80 [(b160,Bl 33 (Br raw qr++(Br r q++Br r q))),(b18,Bl 28 [.int .i64 r.N,.slice aE r.es.length cE]),(b16,Bl 33 (Br r q)),(b9,Bl 33 (Br raw qr))] bx a acs.length c bd b nx ba ra rc br t w') (fun t=>3 - t.i) ⟨0,acs,ds,full,o,rfull,ad,cd,fd⟩ rfl ?_ ?_ ?_
     ·exact ⟨rfl,trivial⟩
     ·exact ⟨Nat.zero_le _,ha,hd,rfl,hO,hM,hRO,hRD,H⟩
     ·clear H hO hM hRO hRD ha hd hn16 hm64
      rintro ⟨i,acs7,ds7,full7,o7,rfull7,ad7,cd7,fd7⟩ jj w ⟨hi,ha,hd,hln,hO,hM,hRO,hRD,H⟩; dsimp only at hi ha hd hln hO hM hRO hRD H; dsimp only
      have hn16:=(Dy.1 ha).1
      have hm64:=(D7.1 hd).1
      rw [← hln]
      refine An (Af (Ad rfl rfl (Aj rfl rfl (AV rfl Tz rfl (AZ rfl rfl rfl (Ab (Aa (Aq _ rfl ?_ ?_))))))))
      ·intro h3
       replace h3:=AF h3
       obtain ⟨⟨rr,qq⟩,hz⟩:=A0 (l:=[(raw,qr),(r,q),(r,q)]) (i:=i) (show i<3 by omega)
       obtain ⟨hbz,hRz,hoz⟩:=hZ _ (List.mem_of_getElem? hz)
       dsimp only at hbz hRz hoz
       obtain ⟨hai,hdi,hli⟩:=JH (r:=rr) ha hd
       obtain ⟨cc,hcc⟩:∃ cc,cc=De acs7 ds7 rr:=⟨_,rfl⟩
       obtain ⟨acs9,ha9⟩:∃ z,z=DY acs7 ds7 rr:=⟨_,rfl⟩
       obtain ⟨ds9,hd9⟩:∃ z,z=Dz acs7 ds7 rr:=⟨_,rfl⟩
       rw [← ha9] at hai hli
       rw [← hd9] at hdi
       have hm9:=(D7.1 hdi).1
       refine Ao (Aa (An (Au (Af (A2 rfl rfl (A2 rfl rfl (Aj rfl rfl (Ad rfl rfl (Bg rfl Tz DL rfl rfl (by omega) (by omega) ?_)))))))))
       refine Cv _ rfl FN DL rfl rfl (((Rd.of_bl (xs:=[(raw,qr),(r,q),(r,q)]) (enc:=encZ) (H.blk _ (List.mem_cons_self ..)) (r:=[]) rfl (fun _ _=>rfl)).row hz rfl)) ?_
       refine Am rfl Qv (Ik (B:=[_,_,_,_]) ha hd H hO hM (hRz.ext H.ext (hoz.mono fun _ => .inl)) (hoz.mono fun x hx=>by obtain ⟨y,hy,rfl⟩:=List.mem_map.1 hx; exact H.own y (List.mem_append_right _ (List.mem_append_left _ hy))) hbz) rfl ?_
       rintro v w ⟨rfl,full8,o8,hO8,hM8,-,H8⟩
       rw [← hcc]
       rw [← ha9] at hO8
       rw [← hd9] at hM8
       have H:=H8
       refine Ae rfl rfl (Ab (Aa (Af (A2 rfl rfl (A2 rfl rfl (Aj rfl rfl (Ad rfl rfl (Bg rfl Tz DL rfl rfl (by omega) (by omega) ?_))))))))
       refine Cv _ rfl FN DL rfl rfl (((Rd.of_bl (xs:=[(raw,qr),(r,q),(r,q)]) (enc:=encZ) (H.blk _ (List.mem_cons_self ..)) (r:=[]) rfl (fun _ _=>rfl)).row hz rfl)) ?_
       have H9:Ctx w80 S80 _ (([(b160,Bl 33 (Br raw qr++(Br r q++Br r q))),(b18,Bl 28 [.int .i64 r.N,.slice aE r.es.length cE]),(b16,Bl 33 (Br r q)),(b9,Bl 33 (Br raw qr))]++LX bx a acs7.length c full8 bd b nx o8)++(RX ba ra acs7.length rc rfull7 br ad7 ds7.length cd7 nx fd7++[])):=by { rw [List.append_nil,List.append_assoc]; exact H }
       refine Am rfl ca_22 (PL ha hd H9 hRO hRD (hRz.ext H.ext (hoz.mono fun _ => .inl)) (hoz.mono fun x hx=>by obtain ⟨y,hy,rfl⟩:=List.mem_map.1 hx; exact H.own y (List.mem_append_right _ (List.mem_append_right _ hy))) hbz) rfl ?_
       rintro v w ⟨rfl,rfull9,ad9,cd9,fd9,hRO9,hRD9,-,H10⟩
       rw [← hcc]
       rw [← ha9] at hRO9
       rw [← hd9] at hRD9 H10
       rw [← hli] at hO8 hRO9 H10
       rw [List.append_nil,List.append_assoc] at H10
       have H:=H10
       clear H8 H9 H10
       refine Ae rfl rfl (Ab (Aa ?_))
       obtain ⟨w1,rfl⟩:∃ z,z=w:=⟨_,rfl⟩
       have HG:=H
       have HX:=(Ctx.right (L:=[_,_,_,_]) H).left
       have HR:=(Ctx.right (L:=[_,_,_,_]) H).right
       have hbx:=HX.get at0
       have hba:=HR.get at0
       have hbr:=HR.get at1
       have RXa:Rd w1 a 2 CB acs9:=OS.rd hO8 (fun x hx=>HX.blk x (List.mem_cons_of_mem _ (List.mem_cons_of_mem _ (List.mem_cons_of_mem _ hx)))) (fun _ _=>rfl) (by decide)
       have RRa:Rd w1 ra 2 CB acs9:=OS.rd hRO9 (fun x hx=>HR.blk x (List.mem_cons_of_mem _ (List.mem_cons_of_mem _ (List.mem_append_right _ hx)))) (fun _ _=>rfl) (by decide)
       have RRd:Rd w1 ad9 7 Cf ds9:=OS.rd hRD9 (fun x hx=>HR.blk x (List.mem_cons_of_mem _ (List.mem_cons_of_mem _ (List.mem_append_left _ hx)))) (fun _ _=>rfl) (by decide)
       have DU1:DuAt w1 bd ds9:=LX.du HX hM8
       have H:=Ctx.start w1 []
       refine CP [([0,1,2,3,4,6,7,8,9],5),([],10),([11,12,13,14,16,17,18,19],15),([],20),([21],22)] (fun z=>Ext [] w1 z) [] B0 (by kernel_rfl) (Ext.drew [] w1) ?_
       refine AU rfl rfl ?_
       refine AS rfl rfl (AS rfl rfl (L7 rfl rfl rfl ?_))
       rw [show (!decide (cc=cc))=false from by simp]
       refine CU rfl rfl (Ch rfl rfl (Ch rfl rfl (B3 rfl rfl (AH rfl FG rfl (BP rfl GK rfl (fun _ hx=>(by rw [Ay (hx.to hba (by simp))]; rfl)) ?_)))))
       refine Ba ?_
       replace H:=H.drew
       refine Am rfl NZ (Ib (bd:=bx) a _ c acs9 _ (H.ext.to hbx (by simp)) (RXa.ext0 H.ext) rfl (by omega)) rfl ?_
       rintro v w Fl
       obtain ⟨al,nl,cl,fl7,rfl,Ol,hbl⟩:=Fl.ex
       obtain rfl:=Ol.numN (fun _ _=>rfl) (by decide)
       replace H:=H.call Fl.ext
       have Rl:Rd w al 2 CB acs9:=OS.rd Ol (fun x hx=>(hbl x hx).1) (fun _ _=>rfl) (by decide)
       refine Ab (BL (H.ext) (AU rfl rfl ?_))
       refine Ba (Am rfl VB (Lt al ra _ cl _ rc acs9 acs9 _ (Rl.ext0 (Ext.refl _ _)) rfl (by omega) (RRa.ext0 H.ext) rfl (by omega)) rfl ?_)
       rintro v w ⟨rfl,hxs⟩
       replace H:=H.call hxs
       rw [show decide (acs9=acs9)=true from decide_eq_true rfl]
       refine Ab (BL (H.ext) (AU rfl rfl ?_))
       refine M9 rfl rfl (G0 rfl rfl (.bool _) rfl (CU rfl rfl (Ch rfl rfl (Ch rfl rfl (B3 rfl rfl (AH rfl Ec rfl (BP rfl Gw rfl (fun _ hx=>(by rw [Ay (hx.to hbr (by simp))]; rfl)) ?_)))))))
       refine Ba (Am rfl K4 (FI hdi _ (DU1.ext0 H.ext)) rfl ?_)
       rintro v w ⟨hxd,a3,c3,rfl,Rd3⟩
       replace H:=H.call hxd
       refine Ab (BL (H.ext) (AU rfl rfl ?_))
       refine Ba (Am rfl VG (Lu a3 ad9 _ c3 _ cd9 ds9 ds9 _ Rd3 rfl (by omega) (RRd.ext0 H.ext) rfl (by omega)) rfl ?_)
       rintro v w ⟨rfl,hxs⟩
       replace H:=H.call hxs
       rw [show decide (ds9=ds9)=true from decide_eq_true rfl]
       refine Ab (BL (H.ext) (AU rfl rfl ?_))
       refine M9 rfl rfl (Ba (A6 rfl rfl (.bool _) rfl (Ab (BL (H.ext) (BO (CJ rfl (Ao (A5 (Aa (Av (Ad rfl rfl (Ap rfl rfl rfl (by omega) (by omega) ?_))))))))))))
       refine Ae rfl rfl (Ab (Aa ?_))
       exact ⟨⟨i+1,acs9,ds9,full8,o8,rfull9,ad9,cd9,fd9⟩,rfl,⟨rfl,trivial⟩,⟨by dsimp only; omega,hai,hdi,hli,hO8,hM8,hRO9,hRD9,HG.call H.ext⟩,by dsimp only; omega⟩
      ·intro h3
       replace h3:=AG h3
       refine Bc (Ak (Ak (AD (Aa (Af (Am rfl Jg (DO _) rfl ?_))))))
       rintro v w ⟨rfl,hx204⟩
       replace H:=Ctx.call H hx204
       refine Ai rfl rfl (Ab (Aa (A8 (AB (v:=(.bool _)) rfl rfl rfl ?_))))
       exact ⟨rfl,hfin _ _ H⟩
end Go.Proofs.YtapphbmlkdhnmaaGreat

/- What the form reads of this seat's arguments. -/
namespace Go.Proofs.YtapphbmlkdhnmaaGreat
open Go.GV Go.ChangeShapes Go.WideShapes

theorem own:ownKnob Tryz.prog.godebug=none:=by kernel_rfl
theorem PM:laidOutB Tryz.prog=true:=by kernel_rfl
section
variable {H:Type} {enc:TypeId × Value→H} {w:World} {base:Nat} {spare:Nat→Bool} {held:Bool}
/-- A field that is a slice. -/
theorem IF {α:Type} {P:Program} {fuel:Nat} {t u e:TypeId} {s:Nat} {cs:List Value} {x:DataW H × List MemPlace} {fs:Array Field} {encd:α→List Value} {Good:α→Prop} (ht:P.underlying t=some (.struct fs)) (h:DataW.trod enc P w base spare held fuel t cs=some x) (i o:Nat)
  (hf:(fs[i]?.map fun f=>(f.type,f.offset))=some (u,o)) (hu:P.underlying u=some (.slice e)) (hc:P.cellsOf u=1) (hs:P.cellsOf e=s) (h0:0<s)
  (dec:∀ n cs y,DataW.trod enc P w base spare held n e cs=some y→∃ d,cs=encd d∧Good d) :
  ∃ (a:Option Addr) (c:Nat) (l:List α),cs[o]? = some (.slice a l.length c)∧Rd w a s encd l∧l.length≤c∧c≤maxLen∧(∀ d∈l,Good d):=by
 obtain ⟨n,y,h1⟩:=Pm ht h i o hf
 rw [hc] at h1
 have hv:∃ v,(cs.drop o).take 1=[v]:=by
  rcases Go.Deep.open_slice hu h1 with ⟨hc,-⟩ | ⟨_,_,_,_,_,_,_,hc,-⟩
  ·exact ⟨_,hc⟩
  ·exact ⟨_,hc⟩
 obtain ⟨v,hv⟩:=hv
 rw [hv] at h1
 obtain ⟨a,c,l,rfl,R,h2,h3,h4⟩:=YZ hu hs h0 dec h1
 exact ⟨a,c,l,MK hv,R,h2,h3,h4⟩
theorem X2:∃ fs,Tryz.prog.underlying 64=some (.struct fs)∧(List.range 2).map (fun i=>fs[i]?.map fun f=>(f.type,f.offset))=[some (2,0),some (2,1)]:=⟨_,Tryz.underlying64,by kernel_rfl⟩
theorem TZ:Tryz.prog.cellsOf 64=2:=by kernel_rfl
theorem X3:∃ fs,Tryz.prog.underlying 62=some (.struct fs)∧(List.range 7).map (fun i=>fs[i]?.map fun f=>(f.type,f.offset))=[some (24,0),some (3,1),some (3,2),some (2,3),some (2,4),some (2,5),some (4,6)]:=⟨_,Tryz.underlying62,by kernel_rfl⟩
theorem Ua:Tryz.prog.cellsOf 62=7:=by kernel_rfl
theorem X4:∃ fs,Tryz.prog.underlying 92=some (.struct fs)∧(List.range 4).map (fun i=>fs[i]?.map fun f=>(f.type,f.offset))=[some (3,0),some (3,1),some (2,2),some (2,3)]:=⟨_,Tryz.underlying92,by kernel_rfl⟩
theorem Ub:Tryz.prog.cellsOf 92=4:=by kernel_rfl
theorem Rr:Tryz.prog.cellsOf 2=1:=by kernel_rfl
theorem X5:Tryz.prog.cellsOf 24=1:=by kernel_rfl
theorem eds1:Tryz.prog.cellsOf 26=1:=by kernel_rfl
theorem Zu:Tryz.prog.cellsOf 29=1:=by kernel_rfl
theorem u64s1:Tryz.prog.cellsOf 25=1:=by kernel_rfl
theorem Vf:∃ fs,Tryz.prog.underlying 28=some (.struct fs)∧(List.range 2).map (fun i=>fs[i]?.map fun f=>(f.type,f.offset))=[some (3,0),some (26,1)]:=⟨_,Tryz.underlying28,by kernel_rfl⟩
theorem X6:Tryz.prog.cellsOf 28=2:=by kernel_rfl
theorem Tb:∃ fs,Tryz.prog.underlying 31=some (.struct fs)∧(List.range 2).map (fun i=>fs[i]?.map fun f=>(f.type,f.offset))=[some (29,0),some (29,1)]:=⟨_,Tryz.underlying31,by kernel_rfl⟩
theorem Vg:Tryz.prog.cellsOf 31=2:=by kernel_rfl
theorem OT:∃ fs,Tryz.prog.underlying 33=some (.struct fs)∧(List.range 6).map (fun i=>fs[i]?.map fun f=>(f.type,f.offset))=[some (24,0),some (2,1),some (4,2),some (25,3),some (28,4),some (31,6)]:=⟨_,Tryz.underlying33,by kernel_rfl⟩
theorem X7:Tryz.prog.cellsOf 33=8:=by kernel_rfl
theorem Acc:∀ n cs y,DataW.trod enc Tryz.prog w base spare held n 64 cs=some y→∃ d:Ac,cs=CB d∧(I64 d.ba∧I64 d.re):=by
 intro n cs y h
 obtain ⟨fs,ht,hf⟩:=X2
 have hl:=J3 ht h
 rw [TZ] at hl
 simp only [List.range,List.range.loop,List.map_cons,List.map_nil,List.cons.injEq,and_true] at hf
 obtain ⟨f0,f1⟩:=hf
 obtain ⟨a,ha,a1,a2⟩:=Ez ht h 0 0 f0 Tryz.underlying2
 obtain ⟨b,hb,b1,b2⟩:=Ez ht h 1 1 f1 Tryz.underlying2
 refine ⟨⟨a,b⟩,?_,⟨a1,a2⟩,b1,b2⟩
 match cs,hl with
 | [_,_],_ =>
  simp at ha hb
  simp [ha,hb]
/-- What a due's numbers may be, as its type has it. -/
def DuT (d:Du):Prop:=(0≤d.id∧d.id<18446744073709551616)∧I64 d.fr∧I64 d.to∧I64 d.am∧I64 d.we∧I64 d.un
theorem Acd:∀ n cs y,DataW.trod enc Tryz.prog w base spare held n 62 cs=some y→∃ d:Du,cs=Cf d∧DuT d:=by
 intro n cs y h
 obtain ⟨fs,ht,hf⟩:=X3
 have hl:=J3 ht h
 rw [Ua] at hl
 simp only [List.range,List.range.loop,List.map_cons,List.map_nil,List.cons.injEq,and_true] at hf
 obtain ⟨f0,f1,f2,f3,f4,f5,f6⟩:=hf
 obtain ⟨a,ha,a1,a2⟩:=Ez ht h 0 0 f0 Tryz.underlying24
 obtain ⟨b,hb,hb'⟩:=Ez ht h 1 1 f1 Tryz.underlying3
 obtain ⟨c,hc,hc'⟩:=Ez ht h 2 2 f2 Tryz.underlying3
 obtain ⟨d,hd,hd'⟩:=Ez ht h 3 3 f3 Tryz.underlying2
 obtain ⟨e,he,he'⟩:=Ez ht h 4 4 f4 Tryz.underlying2
 obtain ⟨f,hf,hf'⟩:=Ez ht h 5 5 f5 Tryz.underlying2
 obtain ⟨g,hg⟩:=Qt ht h 6 6 f6 Tryz.underlying4
 refine ⟨⟨a,b,c,d,e,f,g⟩,?_,⟨a1,by have a3:a≤18446744073709551615:=a2; dsimp only; omega⟩,hb',hc',hd',he',hf'⟩
 match cs,hl with
 | [_,_,_,_,_,_,_],_ =>
  simp at ha hb hc hd he hf hg
  simp [ha,hb,hc,hd,he,hf,hg]
def EdT (e:Ed):Prop:=I64 e.f∧I64 e.t∧I64 e.cap∧I64 e.cost
theorem Ace:∀ n cs y,DataW.trod enc Tryz.prog w base spare held n 92 cs=some y→∃ d:Ed,cs=Cw d∧EdT d:=by
 intro n cs y h
 obtain ⟨fs,ht,hf⟩:=X4
 have hl:=J3 ht h
 rw [Ub] at hl
 simp only [List.range,List.range.loop,List.map_cons,List.map_nil,List.cons.injEq,and_true] at hf
 obtain ⟨f0,f1,f2,f3⟩:=hf
 obtain ⟨a,ha,ha'⟩:=Ez ht h 0 0 f0 Tryz.underlying3
 obtain ⟨b,hb,hb'⟩:=Ez ht h 1 1 f1 Tryz.underlying3
 obtain ⟨c,hc,hc'⟩:=Ez ht h 2 2 f2 Tryz.underlying2
 obtain ⟨d,hd,hd'⟩:=Ez ht h 3 3 f3 Tryz.underlying2
 refine ⟨⟨a,b,c,d⟩,?_,ha',hb',hc',hd'⟩
 match cs,hl with
 | [_,_,_,_],_ =>
  simp at ha hb hc hd
  simp [Cw,ha,hb,hc,hd]
/-- What a round's numbers may be, as its type has it. -/
structure RT (r:Rnd):Prop where
 no:0≤r.no∧r.no<18446744073709551616
 day:I64 r.day
 ids:∀ x∈r.ids,0≤x∧x<18446744073709551616
 N:I64 r.N
 es:∀ e∈r.es,EdT e
 fl:∀ x∈r.fl,I64 x
 pot:∀ x∈r.pot,I64 x
theorem KS {cs:List Value} {o m j:Nat} {v:Value} (h:((cs.drop o).take m)[j]? = some v):cs[o+j]? = some v:=by
 rw [List.getElem?_take] at h
 split at h
 ·rw [List.getElem?_drop] at h; exact h
 ·cases h
theorem YR:∀ n cs y,DataW.trod enc Tryz.prog w base spare held n 33 cs=some y→∃ (r:Rnd) (q:RSl),cs=Br r q∧RAt w r q∧RT r:=by
 intro n cs y h
 obtain ⟨fs,ht,hf⟩:=OT
 have hl:=J3 ht h
 rw [X7] at hl
 simp only [List.range,List.range.loop,List.map_cons,List.map_nil,List.cons.injEq,and_true] at hf
 obtain ⟨f0,f1,f2,f3,f4,f5⟩:=hf
 obtain ⟨no,hno,no1,no2⟩:=Ez ht h 0 0 f0 Tryz.underlying24
 obtain ⟨day,hday,hday'⟩:=Ez ht h 1 1 f1 Tryz.underlying2
 obtain ⟨cmp,hcmp⟩:=Qt ht h 2 2 f2 Tryz.underlying4
 obtain ⟨aI,cI,ids,hI,RI,-,-,gI⟩:=IF ht h 3 3 f3 Tryz.underlying25 u64s1 X5 (by decide) (Pn Tryz.underlying24)
 obtain ⟨n4,y4,h4⟩:=Pm ht h 4 4 f4
 rw [X6] at h4
 obtain ⟨n5,y5,h5⟩:=Pm ht h 5 6 f5
 rw [Vg] at h5
 obtain ⟨gs,gt,hg⟩:=Vf
 simp only [List.range,List.range.loop,List.map_cons,List.map_nil,List.cons.injEq,and_true] at hg
 obtain ⟨g0,g1⟩:=hg
 obtain ⟨N,hN,hN'⟩:=Ez gt h4 0 0 g0 Tryz.underlying3
 obtain ⟨aE,cE,es,hE,RE,-,-,gE⟩:=IF gt h4 1 1 g1 Tryz.underlying26 eds1 Ub (by decide) Ace
 obtain ⟨ks,kt,hk⟩:=Tb
 simp only [List.range,List.range.loop,List.map_cons,List.map_nil,List.cons.injEq,and_true] at hk
 obtain ⟨k0,k1⟩:=hk
 obtain ⟨aF,cF,fl,hF,RF,hfc,-,gF⟩:=IF kt h5 0 0 k0 Tryz.underlying29 Zu Rr (by decide) (Pn Tryz.underlying2)
 obtain ⟨aP,cP,pot,hP,RP,-,-,gP⟩:=IF kt h5 1 1 k1 Tryz.underlying29 Zu Rr (by decide) (Pn Tryz.underlying2)
 have e4:=KS hN
 have e5:=KS hE
 have e6:=KS hF
 have e7:=KS hP
 refine ⟨⟨no,day,cmp,ids,N,es,fl,pot⟩,⟨aI,cI,aE,cE,aF,cF,aP,cP⟩,?_,⟨RI,RE,RF,RP,hfc⟩,⟨⟨no1,by have a3:no≤18446744073709551615:=no2; dsimp only; omega⟩,hday',fun x hx=>?_,hN',gE,gF,gP⟩⟩
 ·match cs,hl with
  | [_,_,_,_,_,_,_,_],_ =>
   simp at hno hday hcmp hI e4 e5 e6 e7
   simp [hno,hday,hcmp,hI,e4,e5,e6,e7]
 ·have h1:=gI x hx
  have h2:0≤x:=h1.1
  have h3:x≤18446744073709551615:=h1.2
  omega
set_option maxRecDepth 100000 in
theorem Acf {b:Nat} {v:Value} {d:DataW H} {ps:List MemPlace} (hv:Value.okWide Tryz.prog w .any b 33 v) (h:DataW.Trod enc Tryz.prog w base spare held 33 v d ps):∃ (r:Rnd) (q:RSl),v = .agg (Br r q).toArray∧RAt w r q∧RT r:=by
 obtain ⟨fs,ht,_⟩:=OT
 obtain ⟨cs,rfl,_⟩:=okWide_struct ht hv
 obtain ⟨fuel,hf⟩:=h
 obtain ⟨r,q,hx,h1,h2⟩:=YR fuel cs.toList (d,ps) (by simpa [Value.cells] using hf)
 exact ⟨r,q,by rw [← hx],h1,h2⟩
set_option maxRecDepth 100000 in
theorem X8 {b:Nat} {v:Value} {d:DataW H} {ps:List MemPlace} (hv:Value.okWide Tryz.prog w .any b 22 v) (h:DataW.Trod enc Tryz.prog w base spare held 22 v d ps):∃ a c l,v = .slice a l.length c∧Rd w a 2 CB l∧∀ x∈l,I64 x.ba∧I64 x.re:=by
 obtain ⟨a,c,l,h1,h2,-,-,h3⟩:=Tt Tryz.underlying22 TZ (by decide) Acc (okWide_slice Tryz.underlying22 hv) h
 exact ⟨a,c,l,h1,h2,h3⟩
set_option maxRecDepth 100000 in
theorem X9 {b:Nat} {v:Value} {d:DataW H} {ps:List MemPlace} (hv:Value.okWide Tryz.prog w .any b 23 v) (h:DataW.Trod enc Tryz.prog w base spare held 23 v d ps):∃ a c l,v = .slice a l.length c∧Rd w a 7 Cf l∧∀ x∈l,DuT x:=by
 obtain ⟨a,c,l,h1,h2,-,-,h3⟩:=Tt Tryz.underlying23 Ua (by decide) Acd (okWide_slice Tryz.underlying23 hv) h
 exact ⟨a,c,l,h1,h2,h3⟩
end
end Go.Proofs.YtapphbmlkdhnmaaGreat
