/- Part 11 of the proof. -/
import Derived.Test.YtapphbmlkdhnmaaGreatPart2
import Derived.Test.YtapphbmlkdhnmaaGreatPart10
import Derived.Test.YtapphbmlkdhnmaaGreatPart4
import Derived.Test.YtapphbmlkdhnmaaGreatPart3
/- What a right round says of a due, and of a bank. -/
namespace Go.Proofs.YtapphbmlkdhnmaaGreat
open Go.GV
attribute [local irreducible] A1 W Wq Wt

/-- What a right round says. -/
structure WR (r:Rnd):Prop where
 chk:Ex r.N r.es r.fl r.pot=true
 day:0≤r.day
 d64:r.ids.length≤64
 nd:r.ids.Nodup
 N1:1≤r.N
 N17:r.N≤17
 de:r.ids.length≤r.es.length
 e200:r.es.length≤200
 len:r.fl.length=r.es.length
 pot:(r.pot.length:Int)=r.N
 wi:BJ r.N r.es r.fl=true
 due:∀ (i:Nat) (e:Ed),i<r.ids.length→r.es[i]? = some e→EH (r.N - 1) e=true
 rest:HW r=true
theorem Ko {r:Rnd} (h:B7 r=true):WR r:=by
 unfold B7 at h
 rw [Bool.and_eq_true,Bool.and_eq_true,List.all_eq_true] at h
 obtain ⟨h1,h2,h3⟩:=h
 obtain ⟨g1,g2,g3,g4,g5,g6⟩:=QR h1
 obtain ⟨k1,-,k3,k4,k5⟩:=LH g1
 exact ⟨g1,g2,g3,g4,k1,by omega,g6,k3,k4,k5,(Fq (F7.1 g1).1).1,fun i e hi he=>h2 e (List.mem_of_getElem? (by rw [List.getElem?_take,if_pos hi]; exact he)),h3⟩
theorem Pz {h:Int} {e:Ed} (hw:EH h e=true):e.f<h∧e.t<h∧e.f≠e.t∧1≤e.cap ∧ -1000≤e.cost∧e.cost ≤ -1:=by
 unfold EH at hw
 simp only [Bool.and_eq_true,decide_eq_true_eq,Bool.not_eq_true',decide_eq_false_iff_not] at hw
 exact ⟨hw.1.1.1.1.1,hw.1.1.1.1.2,hw.1.1.1.2,hw.1.1.2,hw.1.2,hw.2⟩
/-- The first place of a number. -/
def QS (ids:List Int) (x:Int):Option Nat:=ids.findIdx? fun y=>decide (y=x)
theorem Oe {ids:List Int} {x:Int} {i:Nat} (h:ids[i]? = some x) (hb:∀ (k:Nat) (y:Int),k<i→ids[k]? = some y→y≠x):QS ids x=some i:=by
 obtain ⟨h1,h2⟩:=List.getElem?_eq_some_iff.1 h
 unfold QS
 rw [List.findIdx?_eq_some_iff_getElem]
 exact ⟨h1,decide_eq_true h2,fun j hj=>by
  have:=hb j _ hj (List.getElem?_eq_getElem (by omega))
  simpa using this⟩
theorem Vm {ids:List Int} {x:Int} (hb:∀ (k:Nat) (y:Int),ids[k]? = some y→y≠x):QS ids x=none:=by
 unfold QS
 rw [List.findIdx?_eq_none_iff]
 intro y hy
 obtain ⟨k,hk⟩:=List.mem_iff_getElem?.1 hy
 exact decide_eq_false (hb k y hk)
def idxI (o:Option Nat):Int:=match o with | some i=>(i:Int) | none => -1
theorem X8 (a:Option Addr) (n c:Nat) (ids:List Int) (x:Int) (w:World) (R:Rd w a 1 U1 ids) (hn:ids.length=n) (hn2:n≤1000000):Ret Tryz.prog 97 #[.slice a n c,.int .u64 x] w fun v w'=>v = .int .i64 (idxI (QS ids x))∧Ext [] w w':=by
 subst hn
 obtain ⟨w0,rfl⟩:∃ w0,w0=w:=⟨_,rfl⟩
 have H:=Ctx.start w0 []
 refine A0 (fn:=Tryz.f97) Tryz.func97 rfl [.slice a ids.length c,.int .u64 x] rfl (by kernel_rfl) ?_
 refine Af (Ae rfl rfl (Ab (Aa (Aq (Af (Ak rfl rfl (Be rfl Bd rfl (Ad rfl rfl (Ab (Aa (Av ?_)))))))))))
 refine Bm 524080 (α:=Nat) (fun i=>[(8,.int .i64 (i:Int))]) (fun i w'=>i≤ids.length∧Ctx w0 [] w' []∧∀ (k:Nat) (y:Int),k<i→ids[k]? = some y→y≠x) (fun i=>ids.length - i) 0 rfl ?_ ?_ ?_
 ·exact ⟨rfl,trivial⟩
 ·exact ⟨Nat.zero_le _,H,fun j e h=>absurd h (Nat.not_lt_zero _)⟩
 ·clear H
  rintro i j w ⟨hi,H,hb⟩
  refine Af (AV rfl rfl rfl (Ab (Aa (Aq (Ax _ rfl ?_ ?_)))))
  ·intro h1
   replace h1:=AE h1
   obtain ⟨y,hy⟩:=A4 (l:=ids) (i:=i) (by omega)
   have R1:=R.ext0 H.ext
   refine Aw (Aa (Aq (Av (Af (Ad rfl rfl (Ae rfl rfl (Ab (Aa (Af (Ad rfl rfl (Ak rfl rfl ?_)))))))))))
   refine Ad rfl rfl (Ba R1 rfl Bd AZ rfl rfl (by omega) (by omega) (by rfl) ?_)
   refine AY rfl BD rfl ((R1.fld hy rfl (j:=0) rfl)) ?_
   refine Cg rfl rfl rfl (Ab (Aa (Ax _ rfl ?_ ?_)))
   ·intro h2
    replace h2:=AE h2
    refine Af (Ad rfl rfl (Ae rfl rfl (Ab (Aa (A9 (A7 (Am (Am (A7 (Am (AC (v:=(.int _ _)) rfl rfl rfl ?_)))))))))))
    exact ⟨congrArg (Value.int .i64) (by rw [Oe (by rw [hy,h2]) hb]; rfl),H.ext⟩
   ·intro h2
    replace h2:=AF h2
    refine Aw (A2 (Aa (Ap (Ao rfl rfl rfl (by omega) (by omega) ?_))))
    refine Ad rfl rfl (Ab (Aa ?_))
    refine ⟨i+1,rfl,⟨rfl,trivial⟩,⟨by omega,H,fun k z hk hz=>?_⟩,by omega⟩
    rcases Nat.lt_or_ge k i with h3 | h3
    ·exact hb k z h3 hz
    ·obtain rfl:k=i:=by omega
     rw [hy] at hz; cases hz
     exact fun h=>h2 h.symm
  ·intro h1
   replace h1:=AF h1
   refine Bh (Aj (Aj (AB (Aa (Af (Ae rfl rfl (Ab (Aa (A9 (AC (v:=(.int _ _)) rfl rfl rfl ?_))))))))))
   exact ⟨congrArg (Value.int .i64) (by rw [Vm fun k y hk=>hb k y (by have:=Cr hk; omega) hk]; rfl),H.ext⟩
/-- What was paid of a due, of how much, and the code. -/
def Jq (r:Rnd) (x:Int):Int × Int × Int:=if B7 r=true then (match QS r.ids x with | some i=>(r.fl.getD i 0,(r.es.getD i e0).cap,0) | none=>(0,0,4)) else (0,0,1)
abbrev tri (p:Int × Int × Int):Value := .tuple #[.int .i64 p.1,.int .i64 p.2.1,.int .i64 p.2.2]
set_option maxRecDepth 20000 in
theorem MQ (r:Rnd) (q:RSl) (x:Int) (w:World) (RA:RAt w r q) (hEc:r.es.length≤q.cE) (hr:RBnd r):Ret Tryz.prog 39 #[.agg (AJ r q).toArray,.int .u64 x] w fun v w'=>v=tri (Jq r x)∧Ext [] w w':=by
 obtain ⟨w0,rfl⟩:∃ w0,w0=w:=⟨_,rfl⟩
 have H:=Ctx.start w0 []
 have hfl:=hr.fl
 obtain ⟨wr,hwr⟩:∃ wr,wr=B7 r:=⟨_,rfl⟩
 refine A0 (fn:=Tryz.f39) Tryz.func39 rfl [.agg (AJ r q).toArray,.int .u64 x] rfl (by kernel_rfl) ?_
 refine Af (B2 rfl (AJ r q) (.agg _) rfl rfl H ?_)
 rintro b2 w - H
 refine Ae rfl rfl (Ae rfl rfl (Ae rfl rfl (Ab (Aa (Aq (Af (Bq rfl C6 Cp rfl H at0 rfl (Al rfl Lj (Fc r q _ (RA.ext0 H.ext) hEc hr) rfl ?_))))))))
 rintro v w ⟨rfl,hx9⟩
 replace H:=H.call hx9
 rw [← hwr]
 refine Bv rfl rfl (Ab (Aa (Ax _ rfl ?_ ?_)))
 ·intro h1
  replace h1:=B0 h1
  refine Af (Ae rfl rfl (Ae rfl rfl (Ae rfl rfl (Ab (Aa (A9 (Am (DP (v1:=(.int _ _)) (v2:=(.int _ _)) (v3:=(.int _ _)) rfl rfl rfl rfl rfl ?_))))))))
  have h1':B7 r=false:=by rw [← hwr]; simpa using h1
  exact ⟨by unfold Jq; rw [if_neg (by rw [h1']; decide)],H.ext⟩
 ·intro h1
  replace h1:=B1 h1
  have h1':B7 r=true:=by rw [← hwr]; simpa using h1
  have WW:=Ko h1'
  have hde:=WW.de
  have hle:=WW.len
  refine Aw (Aa (Af (Ah rfl EK rfl (AM rfl Fy rfl H at0 rfl (Ad rfl rfl (Al rfl ca_97 (X8 q.aI _ q.cI r.ids x _ (RA.I.ext0 H.ext) rfl hr.ids) rfl ?_))))))
  rintro v w ⟨rfl,hx14⟩
  replace H:=H.call hx14
  refine Ae rfl rfl (Ab (Aa (Aq ?_)))
  have hP:Jq r x=(match QS r.ids x with | some i=>(r.fl.getD i 0,(r.es.getD i e0).cap,0) | none=>(0,0,4)):=by unfold Jq; rw [if_pos h1']
  rw [hP]
  rcases hix:QS r.ids x with _ | i
  ·skip
   refine Af (Ad rfl rfl (AV rfl rfl rfl (Ab (Aa (CI rfl (Af (Ae rfl rfl (Ae rfl rfl (Ae rfl rfl (Ab (Aa ?_)))))))))))
   refine A9 (Am (DP (v1:=(.int _ _)) (v2:=(.int _ _)) (v3:=(.int _ _)) rfl rfl rfl rfl rfl ?_))
   exact ⟨rfl,H.ext⟩
  ·skip
   obtain ⟨hil,-⟩:=(List.findIdx?_eq_some_iff_getElem.1 hix)
   obtain ⟨e,he⟩:=A4 (l:=r.es) (i:=i) (by omega)
   obtain ⟨y,hy⟩:=A4 (l:=r.fl) (i:=i) (by omega)
   have RE:=RA.E
   have RF:=RA.F
   refine Af (Ad rfl rfl (AV rfl rfl rfl ?_))
   rw [show decide (idxI (some i)<0)=false from decide_eq_false (by show ¬ ((i:Int)<0); omega)]
   refine Ab (Aa (EJ rfl (Aw (Aa (FV (fun x=>x=_) Bz (by kernel_rfl) rfl ?_)))))
   refine AD rfl LB rfl (AD rfl L9 rfl (Cs rfl BT rfl (by rintro _ rfl; exact H.drew) at0 rfl ?_))
   refine AR rfl rfl (CD (i:=(i:Int)) RF rfl AX Bw rfl rfl (by omega) (by omega) (by rfl) ?_)
   refine Cd rfl B9 rfl (by rintro _ rfl; exact (((RF.ext0 H.drew.ext).fld hy rfl (j:=0) rfl))) ?_
   refine AD rfl Fo rfl (AD rfl CR rfl (Cs rfl Ec rfl (by rintro _ rfl; exact H.drew) at0 rfl ?_))
   refine AR rfl rfl (CD (i:=(i:Int)) RE rfl C9 Ci rfl rfl (by omega) (by omega) (by rfl) ?_)
   refine AD rfl D4 rfl (Cd rfl B9 rfl (by rintro _ rfl; exact (((RE.ext0 H.drew.ext).fld he rfl (j:=2) rfl))) ?_)
   refine CO rfl rfl (CO rfl rfl (CO rfl rfl (BW ?_)))
   rintro _ rfl
   replace H:=H.drew
   refine A9 (DP (v1:=(.int _ _)) (v2:=(.int _ _)) (v3:=(.int _ _)) rfl rfl rfl rfl rfl ?_)
   exact ⟨by dsimp only; rw [AU he,AU hy],H.ext⟩
end Go.Proofs.YtapphbmlkdhnmaaGreat

/- What a right round says of a bank, and what it is worth. -/
namespace Go.Proofs.YtapphbmlkdhnmaaGreat
open Go.GV
attribute [local irreducible] A1 W Wq Wt

/-- A sum over the first dues. -/
def Ei (r:Rnd) (f:Ed→Int→Int) (n:Nat):Int:=Bn (fun i=>f (r.es.getD i e0) (r.fl.getD i 0)) n
theorem Og {r:Rnd} {f:Ed→Int→Int} {i:Nat} {e:Ed} {x:Int} (he:r.es[i]? = some e) (hx:r.fl[i]? = some x):Ei r f (i+1)=Ei r f i+f e x:=by
 unfold Ei
 show _+f (r.es.getD i e0) (r.fl.getD i 0)=_
 rw [AU he,AU hx]
def E0:Nat→List Nat
 | 3=>[2] | 4=>[2,3] | 6=>[2,3,4,5] | 7=>[2,3,4,5,6] | 9=>[8] | 10=>[8,9] | 12=>[8,9,10,11] | 13=>[8,9,10,11,12]
 | 14=>[1,2,3,4,5,6,7,8,9,10,11,12,13] | 15=>[0,1,2,3,4,5,6,7,8,9,10,11,12,13,14] | 16=>[0,1,2,3,4,5,6,7,8,9,10,11,12,13,14,15]
 | _=>[]
def Ads (fid:FuncId) (cl:List Value) (b2:Nat) (r:Rnd) (q:RSl) (i:Nat) (e:Ed) (x s y:Int):Nat→Value
 | 0 => .int .i64 s | 1 => .func (.func fid) #[] cl.toArray | 2 => .pointer (some ⟨b2,4,none⟩) | 3 => .pointer (some ⟨b2,5,none⟩) | 4 => .slice q.aE r.es.length q.cE
 | 5 => .int .i64 (i:Int) | 6 => .pointer (some ⟨(adr q.aE).block,(adr q.aE).off+i*4,none⟩) | 7 => .agg (B6 e).toArray | 8 => .pointer (some ⟨b2,6,none⟩) | 9 => .pointer (some ⟨b2,6,none⟩)
 | 10 => .slice q.aF r.fl.length q.cF | 11 => .int .i64 (i:Int) | 12 => .pointer (some ⟨(adr q.aF).block,(adr q.aF).off+i*1,none⟩) | 13 => .int .i64 x | 14 => .int .i64 y
 | _ => .int .i64 (s+y)
set_option maxRecDepth 20000 in
theorem MR (r:Rnd) (q:RSl) (fid:FuncId) (cl:List Value) (f:Ed→Int→Int) (w:World) (RA:RAt w r q) (hr:RBnd r) (hde:r.ids.length≤r.es.length) (hle:r.fl.length=r.es.length) (hfc:Az Tryz.prog fid=true)
  (hf:∀ (i:Nat) (e:Ed) (x:Int) (w':World),i<r.ids.length→r.es[i]? = some e→r.fl[i]? = some x→Ext [] w w'→Ret Tryz.prog fid (.agg (B6 e).toArray :: .int .i64 x::cl).toArray w' fun v w''=>v = .int .i64 (f e x)∧Ext [] w' w'')
  (hB:∀ k,k≤r.ids.length → -4611686018427387904≤Ei r f k∧Ei r f k≤4611686018427387904) :
  Ret Tryz.prog 100 #[.agg (AJ r q).toArray,.func (.func fid) #[] cl.toArray] w fun v w'=>v = .int .i64 (Ei r f r.ids.length)∧Ext [] w w':=by
 obtain ⟨w0,rfl⟩:∃ w0,w0=w:=⟨_,rfl⟩
 have H:=Ctx.start w0 []
 have hfl:=hr.fl
 have hil:=hr.ids
 refine A0 (fn:=Tryz.f100) Tryz.func100 rfl [.agg (AJ r q).toArray,.func (.func fid) #[] cl.toArray] rfl (by kernel_rfl) ?_
 have RE:=RA.E
 have RF:=RA.F
 refine Af (B2 rfl (AJ r q) (.agg _) rfl rfl H ?_)
 rintro b2 w - H
 refine Ae rfl rfl (Ab (Aa (Aq (Af (Ah rfl EK rfl (AM rfl Fy rfl H at0 rfl (Be rfl Bd rfl (Ad rfl rfl (Ab (Aa (Av ?_)))))))))))
 refine Bm 536870448 (α:=Nat) (fun i=>[(9,.int .i64 (i:Int)),(4,.int .i64 (Ei r f i))]) (fun i w'=>i≤r.ids.length∧Ctx w0 [] w' [(b2,Bl 33 (AJ r q))]) (fun i=>r.ids.length - i) 0 rfl ?_ ?_ ?_
 ·exact ⟨rfl,rfl,trivial⟩
 ·exact ⟨Nat.zero_le _,H⟩
 ·clear H
  rintro i j w ⟨hi,H⟩
  refine Af (AV rfl rfl rfl (Ab (Aa (Aq (Ax _ rfl ?_ ?_)))))
  ·intro h1
   replace h1:=AE h1
   obtain ⟨e,he⟩:=A4 (l:=r.es) (i:=i) (by omega)
   obtain ⟨x,hxx⟩:=A4 (l:=r.fl) (i:=i) (by omega)
   have hst:=Og (f:=f) he hxx
   have hb1:=hB i (by omega)
   have hb2:=hB (i+1) (by omega)
   rw [hst] at hb2
   obtain ⟨s,hs⟩:∃ s,s=Ei r f i:=⟨_,rfl⟩
   obtain ⟨y,hy⟩:∃ y,y=f e x:=⟨_,rfl⟩
   rw [← hs,← hy] at hb2 hst
   rw [← hs] at hb1 ⊢
   refine Aw (Aa (Aq (Av (Af (Ad rfl rfl (Ae rfl rfl (Ab (Aa (OR 268431376 (α:=Unit) (fun _=>[(4,.int .i64 (s+y))]) (fun _ w'=>Ctx w0 [] w' [(b2,Bl 33 (AJ r q))]) rfl ?_ ?_)))))))))
   ·skip
    have hb2:=H.get at0
    refine YB (n:=16) (anc:=E0) (fun i=>12+i) (Ads fid cl b2 r q i e x s y) (show Tryz.prog.follows .mixedOrders=true by kernel_rfl) rfl (by kernel_rfl) ?_ (fun i j _ _ h=>by have h:12+i=12+j:=h; omega) ?_ ?_
    ·intro k hk
     have:k=0∨k=1∨k=2∨k=3∨k=4∨k=5∨k=6∨k=7∨k=8∨k=9∨k=10∨k=11∨k=12∨k=13∨k=14∨k=15:=by omega
     simp [E0]
     omega
    ·intro m o e' w' hm ho hold hsl hx
     have hin:∀ t:Nat,t<12→∀ j,j<16→t≠12+j:=fun t ht j hj=>by omega
     have g1:e'.g 1 = .func (.func fid) #[] cl.toArray:=(hold 1 (hin 1 (by omega))).trans rfl
     have g2:e'.g 2=ptr b2:=(hold 2 (hin 2 (by omega))).trans rfl
     have g4:e'.g 4 = .int .i64 s:=(hold 4 (hin 4 (by omega))).trans rfl
     have g5:e'.g 5 = .int .i64 (i:Int):=(hold 5 (hin 5 (by omega))).trans rfl
     have hx0:Ext [] w w':=(Ext.drew [] w).trans hx
     have hc:w'.heap[b2]? = some (Bl 33 (AJ r q)):=hx0.to hb2 (by simp)
     have hcs:m=0∨m=1∨m=2∨m=3∨m=4∨m=5∨m=6∨m=7∨m=8∨m=9∨m=10∨m=11∨m=12∨m=13∨m=14∨m=15:=by omega
     rcases hcs with rfl | rfl | rfl | rfl | rfl | rfl | rfl | rfl | rfl | rfl | rfl | rfl | rfl | rfl | rfl | rfl
     ·cases Option.some.inj ho
      exact BO rfl _ g4 (Ab ⟨.refl _ _,rfl⟩)
     ·cases Option.some.inj ho
      exact BO rfl _ g1 (Ab ⟨.refl _ _,rfl⟩)
     ·cases Option.some.inj ho
      exact Ah (off:=4) rfl (by kernel_rfl) g2 (Ab ⟨.refl _ _,rfl⟩)
     ·cases Option.some.inj ho
      exact Ah (off:=1) rfl (by kernel_rfl) (hsl 2 (by simp [E0])) (Ab ⟨.refl _ _,rfl⟩)
     ·cases Option.some.inj ho
      exact AY rfl Ec (hsl 3 (by simp [E0])) (by rw [An hc]; rfl) (Ab ⟨.refl _ _,rfl⟩)
     ·cases Option.some.inj ho
      exact BO rfl _ g5 (Ab ⟨.refl _ _,rfl⟩)
     ·cases Option.some.inj ho
      exact Ba RE rfl C9 Ci (hsl 4 (by simp [E0])) (hsl 5 (by simp [E0])) (by omega) (by omega) rfl (Ab ⟨.refl _ _,rfl⟩)
     ·cases Option.some.inj ho
      exact Cx (B6 e) rfl EW Ci (hsl 6 (by simp [E0])) rfl ((RE.ext0 (H.ext.trans hx0)).row he rfl) (Ab ⟨.refl _ _,rfl⟩)
     ·cases Option.some.inj ho
      exact Ah (off:=6) rfl (by kernel_rfl) g2 (Ab ⟨.refl _ _,rfl⟩)
     ·cases Option.some.inj ho
      exact Ah (off:=0) rfl (by kernel_rfl) (hsl 8 (by simp [E0])) (Ab ⟨.refl _ _,rfl⟩)
     ·cases Option.some.inj ho
      exact AY rfl BT (hsl 9 (by simp [E0])) (by rw [An hc]; rfl) (Ab ⟨.refl _ _,rfl⟩)
     ·cases Option.some.inj ho
      exact BO rfl _ g5 (Ab ⟨.refl _ _,rfl⟩)
     ·cases Option.some.inj ho
      exact Ba RF rfl AX Bw (hsl 10 (by simp [E0])) (hsl 11 (by simp [E0])) (by omega) (by omega) rfl (Ab ⟨.refl _ _,rfl⟩)
     ·cases Option.some.inj ho
      exact AY rfl B9 (hsl 12 (by simp [E0])) ((RF.ext0 (H.ext.trans hx0)).fld hxx rfl (j:=0) rfl) (Ab ⟨.refl _ _,rfl⟩)
     ·cases Option.some.inj ho
      refine Cb rfl (hsl 1 (by simp [E0])) hfc (hf i e x _ (by omega) he hxx (H.ext.trans hx0)) ?_ ?_
      ·show [e'.g 19,e'.g 25]++cl=_
       rw [show e'.g 19 = .agg (B6 e).toArray from hsl 7 (by simp [E0]),show e'.g 25 = .int .i64 x from hsl 13 (by simp [E0])]
       rfl
      ·rintro v w2 ⟨rfl,h2⟩
       rw [← hy]
       exact Ab ⟨h2,rfl⟩
     ·cases Option.some.inj ho
      exact Ao rfl (hsl 0 (by simp [E0])) (hsl 14 (by simp [E0])) (by omega) (by omega) (Ab ⟨.refl _ _,rfl⟩)
    ·intro o e' w' ho hds hold hsl hx
     cases Option.some.inj ho
     refine BN rfl _ (hsl 15 (by omega)) (Ab ?_)
     exact ⟨rfl,(),hds,⟨Dp _ _ _,trivial⟩,H.call ((Ext.drew [] w).trans hx)⟩
   ·rintro - j4 w H
    refine A2 (Aa (Ap (Ao rfl rfl rfl (by omega) (by omega) ?_)))
    refine Ad rfl rfl (Ab (Aa ?_))
    exact ⟨i+1,rfl,⟨rfl,congrArg (Value.int .i64) hst.symm,trivial⟩,⟨by omega,H⟩,by omega⟩
  ·intro h1
   replace h1:=AF h1
   obtain rfl:i=r.ids.length:=by omega
   refine Bh (Aj (Aj (AB (Aa (Af (Ad rfl rfl (Ae rfl rfl (Ab (Aa (A9 (AC (v:=(.int _ _)) rfl rfl rfl ?_)))))))))))
   exact ⟨rfl,H.ext⟩
def toF (k:Int) (e:Ed) (x:Int):Int:=if e.t=k then x else 0
def frF (k:Int) (e:Ed) (x:Int):Int:=if e.f=k then x else 0
def woF (e:Ed) (x:Int):Int := -e.cost*x
theorem TZ (b:Bool) (x:Int) (w:World):Ret Tryz.prog 99 #[.bool b,.int .i64 x] w fun v w'=>v = .int .i64 (if b=true then x else 0)∧Ext [] w w':=by
 refine A0 (fn:=Tryz.f99) Tryz.func99 rfl [.bool b,.int .i64 x] rfl (by kernel_rfl) ?_
 refine Af (Ae rfl rfl (Ab (Aa (Aq (Af (Ay rfl rfl (Ab (Aa (Ax _ rfl ?_ ?_)))))))))
 ·intro h1
  refine Af (Ad rfl rfl (Ae rfl rfl (Ab (Aa (A9 (Am (AC (v:=(.int _ _)) rfl rfl rfl ?_)))))))
  exact ⟨by rw [if_pos h1],Ext.refl _ _⟩
 ·intro h1
  refine Aw (Aa (Af (Ae rfl rfl (Ab (Aa (A9 (AC (v:=(.int _ _)) rfl rfl rfl ?_)))))))
  exact ⟨by rw [if_neg (by rw [h1]; decide)],Ext.refl _ _⟩
theorem X9 (k:Int) (e:Ed) (x:Int) (b7 b3:Nat) (w:World) (h7:w.heap[b7]? = some (Bl 157 [.func (.func 99) #[] #[]])) (h3:w.heap[b3]? = some (Bl 3 [.int .i64 k])) :
  Ret Tryz.prog 101 #[.agg (B6 e).toArray,.int .i64 x,ptr b7,ptr b3] w fun v w'=>v = .int .i64 (toF k e x)∧Ext [] w w':=by
 obtain ⟨w0,rfl⟩:∃ w0,w0=w:=⟨_,rfl⟩
 have H:=Ctx.start w0 []
 refine A0 (fn:=Tryz.f101) Tryz.func101 rfl [.agg (B6 e).toArray,.int .i64 x,.pointer (some ⟨b7,0,none⟩),.pointer (some ⟨b3,0,none⟩)] rfl (by kernel_rfl) ?_
 refine Af (B2 rfl (B6 e) (.agg _) rfl rfl H ?_)
 rintro b4 w - H
 refine Ae rfl rfl (Ab (Aa (Af (AY rfl VY rfl ((by rw [An (H.ext.to h7 (by simp))]; rfl)) ?_))))
 refine Ah rfl Er rfl (AM rfl BS rfl H at0 rfl (AY rfl BS rfl ((by rw [An (H.ext.to h3 (by simp))]; rfl)) ?_))
 refine Cg rfl rfl rfl (Ad rfl rfl (Cb rfl rfl ZS (TZ (decide (e.t=k)) x _) rfl ?_))
 rintro v w ⟨rfl,hx13⟩
 replace H:=H.call hx13
 refine Ae rfl rfl (Ab (Aa (A9 (AC (v:=(.int _ _)) rfl rfl rfl ?_))))
 exact ⟨congrArg (Value.int .i64) (by unfold toF; by_cases h:e.t=k <;> simp [h]),H.ext⟩
theorem XA (k:Int) (e:Ed) (x:Int) (b7 b3:Nat) (w:World) (h7:w.heap[b7]? = some (Bl 157 [.func (.func 99) #[] #[]])) (h3:w.heap[b3]? = some (Bl 3 [.int .i64 k])) :
  Ret Tryz.prog 102 #[.agg (B6 e).toArray,.int .i64 x,ptr b7,ptr b3] w fun v w'=>v = .int .i64 (frF k e x)∧Ext [] w w':=by
 obtain ⟨w0,rfl⟩:∃ w0,w0=w:=⟨_,rfl⟩
 have H:=Ctx.start w0 []
 refine A0 (fn:=Tryz.f102) Tryz.func102 rfl [.agg (B6 e).toArray,.int .i64 x,.pointer (some ⟨b7,0,none⟩),.pointer (some ⟨b3,0,none⟩)] rfl (by kernel_rfl) ?_
 refine Af (B2 rfl (B6 e) (.agg _) rfl rfl H ?_)
 rintro b4 w - H
 refine Ae rfl rfl (Ab (Aa (Af (AY rfl VY rfl ((by rw [An (H.ext.to h7 (by simp))]; rfl)) ?_))))
 refine Ah rfl DL rfl (AM rfl BS rfl H at0 rfl (AY rfl BS rfl ((by rw [An (H.ext.to h3 (by simp))]; rfl)) ?_))
 refine Cg rfl rfl rfl (Ad rfl rfl (Cb rfl rfl ZS (TZ (decide (e.f=k)) x _) rfl ?_))
 rintro v w ⟨rfl,hx13⟩
 replace H:=H.call hx13
 refine Ae rfl rfl (Ab (Aa (A9 (AC (v:=(.int _ _)) rfl rfl rfl ?_))))
 exact ⟨congrArg (Value.int .i64) (by unfold frF; by_cases h:e.f=k <;> simp [h]),H.ext⟩
theorem Vn (e:Ed) (x:Int) (w:World) (h1 : -9223372036854775808≤e.cost*x∧e.cost*x≤9223372036854775807) (h2 : -1000≤e.cost∧e.cost≤1000) (h3 : -9223372036854775808≤woF e x∧woF e x≤9223372036854775807) :
  Ret Tryz.prog 103 #[.agg (B6 e).toArray,.int .i64 x] w fun v w'=>v = .int .i64 (woF e x)∧Ext [] w w':=by
 obtain ⟨w0,rfl⟩:∃ w0,w0=w:=⟨_,rfl⟩
 have H:=Ctx.start w0 []
 unfold woF at h3
 refine A0 (fn:=Tryz.f103) Tryz.func103 rfl [.agg (B6 e).toArray,.int .i64 x] rfl (by kernel_rfl) ?_
 refine Af (B2 rfl (B6 e) (.agg _) rfl rfl H ?_)
 rintro b2 w - H
 refine Ae rfl rfl (Ab (Aa (Af (Ah rfl EL rfl (AM rfl B9 rfl H at0 rfl (F5 rfl rfl (by omega) (by omega) ?_))))))
 refine Ad rfl rfl (C5 rfl rfl rfl (by omega) (by omega) ?_)
 refine Ae rfl rfl (Ab (Aa (A9 (AC (v:=(.int _ _)) rfl rfl rfl ?_))))
 exact ⟨rfl,H.ext⟩
/-- Flows are small, and so are sums of them. -/
theorem Ua {r:Rnd} (W:WR r) {i:Nat} {x:Int} (hx:r.fl[i]? = some x):0≤x∧x≤4503599627370496:=by
 have hl:=Cr hx
 obtain ⟨e,he⟩:=A4 (l:=r.es) (i:=i) (by rw [← W.len]; exact hl)
 have h1:=(BA W.wi).2.2 i e x he hx
 have h2:=Dj ((BX (BA W.wi).2.1).2.2.2.1 e (List.mem_of_getElem? he))
 omega
theorem IC {r:Rnd} (W:WR r) {f:Ed→Int→Int} (hf:∀ e x,f e x=x∨f e x=0):∀ k,k≤r.ids.length→0≤Ei r f k∧Ei r f k≤4503599627370496*(k:Int)
 | 0,_=>by
  have:Ei r f 0=0:=rfl
  rw [this]; omega
 | k+1,hk=>by
  have ih:=IC W hf k (by omega)
  have h1:=W.de
  have h2:=W.len
  obtain ⟨e,he⟩:=A4 (l:=r.es) (i:=k) (by omega)
  obtain ⟨x,hx⟩:=A4 (l:=r.fl) (i:=k) (by omega)
  have h3:=Ua W hx
  rw [Og he hx]
  rcases hf e x with h | h <;> rw [h] <;> omega
theorem XB (k:Int) (e:Ed) (x:Int):toF k e x=x∨toF k e x=0:=by
 unfold toF
 split
 ·exact .inl rfl
 ·exact .inr rfl
theorem XC (k:Int) (e:Ed) (x:Int):frF k e x=x∨frF k e x=0:=by
 unfold frF
 split
 ·exact .inl rfl
 ·exact .inr rfl
theorem Ub (e:Ed) (x:Int):woF e x = -(x*e.cost):=by unfold woF; rw [Int.neg_mul,Int.mul_comm]
theorem SQ (r:Rnd) (k:Nat):Ei r woF k = -Bn (fun i=>flE r.fl i*(grE r.N r.es).co i) k:=by
 unfold Ei
 rw [← Kc]
 exact BU fun i _=>Ub _ _
def Jr (r:Rnd) (k:Int):Int × Int × Int:=if B7 r=true then (if 0≤k∧k<r.N - 1 then (Ei r (toF k) r.ids.length,Ei r (frF k) r.ids.length,0) else (0,0,10)) else (0,0,1)
set_option maxRecDepth 20000 in
set_option maxHeartbeats 2000000 in
theorem MS (r:Rnd) (q:RSl) (k:Int) (w:World) (RA:RAt w r q) (hEc:r.es.length≤q.cE) (hr:RBnd r):Ret Tryz.prog 42 #[.agg (AJ r q).toArray,.int .i64 k] w fun v w'=>v=tri (Jr r k)∧Ext [] w w':=by
 obtain ⟨w0,rfl⟩:∃ w0,w0=w:=⟨_,rfl⟩
 have H:=Ctx.start w0 []
 obtain ⟨wr,hwr⟩:∃ wr,wr=B7 r:=⟨_,rfl⟩
 refine A0 (fn:=Tryz.f42) Tryz.func42 rfl [.agg (AJ r q).toArray,.int .i64 k] rfl (by kernel_rfl) ?_
 refine Af (B2 rfl (AJ r q) (.agg _) rfl rfl H ?_)
 rintro b2 w - H
 refine B2 rfl _ (.int _ _) rfl rfl H ?_
 rintro b3 w - H
 refine Ae rfl rfl (Ae rfl rfl (Ae rfl rfl (Ab (Aa (Aq (Av (Af (Bq rfl C6 Cp rfl H at1 rfl (Al rfl Lj (Fc r q _ (RA.ext0 H.ext) hEc hr) rfl ?_)))))))))
 rintro v w ⟨rfl,hx10⟩
 replace H:=H.call hx10
 rw [← hwr]
 refine Bv rfl rfl (Ai rfl rfl (Ab (Aa (Ax _ rfl ?_ ?_))))
 ·intro h1
  replace h1:=B0 h1
  refine Af (Ae rfl rfl (Ae rfl rfl (Ae rfl rfl (Ab (Aa (A9 (A7 (Am (DP (v1:=(.int _ _)) (v2:=(.int _ _)) (v3:=(.int _ _)) rfl rfl rfl rfl rfl ?_)))))))))
  have h1':B7 r=false:=by rw [← hwr]; simpa using h1
  exact ⟨by unfold Jr; rw [if_neg (by rw [h1']; decide)],H.ext⟩
 ·intro h1
  replace h1:=B1 h1
  have h1':B7 r=true:=by rw [← hwr]; simpa using h1
  have WW:=Ko h1'
  have hN1:=WW.N1
  have hN17:=WW.N17
  have hP:Jr r k=if 0≤k∧k<r.N - 1 then (Ei r (toF k) r.ids.length,Ei r (frF k) r.ids.length,0) else (0,0,10):=by unfold Jr; rw [if_pos h1']
  rw [hP]
  refine Aq (Af (AM rfl BS rfl H at0 rfl (AV rfl rfl rfl (Ai rfl rfl (Ab (Aa (CV 12 rfl ?_ ?_)))))))
  ·intro h2
   replace h2:=AE h2
   refine Aw (Aa (CI rfl (Af (Ae rfl rfl (Ae rfl rfl (Ae rfl rfl (Ab (Aa (A9 (A7 (Am (DP (v1:=(.int _ _)) (v2:=(.int _ _)) (v3:=(.int _ _)) rfl rfl rfl rfl rfl ?_))))))))))))
   exact ⟨by rw [if_neg (by omega)],H.ext⟩
  ·intro h2
   replace h2:=AF h2
   have HG:Ctx w0 [] w [(b3,Bl 3 [.int .i64 k]),(b2,Bl 33 (AJ r q))]:=H
   have hb2:=HG.get at1
   have hb3:=HG.get at0
   obtain ⟨w1,rfl⟩:∃ z,z=w:=⟨_,rfl⟩
   clear H
   have H:=Ctx.start w1 []
   refine E7 [([0,1],2),([3],4)] (fun z=>Ext [] w1 z) [] Bz (by kernel_rfl) (Ext.drew [] w1) ?_
   refine AO rfl rfl ?_
   refine BQ rfl BS rfl (fun _ hx=>(by rw [An (hx.to hb3 (by simp))]; rfl)) ?_
   refine Fx _ rfl C6 Cp rfl rfl (fun _ hx=>(C8 (b:=b2) (t:=33) (l:=AJ r q) (hx.to hb2 (by simp)) 0 (AJ r q) rfl)) ?_
   refine Bx ?_
   replace H:=H.drew
   refine Al rfl Ie (Ga r q _ (by omega)) rfl ?_
   rintro v w ⟨rfl,hx17⟩
   replace H:=H.call hx17
   refine Ab (C2 (H.ext) (AO rfl rfl ?_))
   refine t_geq rfl rfl rfl (Bx (Ai rfl rfl (Ab (C2 (H.ext) (BL (Aa (CV 12 rfl ?_ ?_)))))))
   ·intro h3
    replace h3:=AE h3
    refine Af (Ae rfl rfl (Ae rfl rfl (Ae rfl rfl (Ab (Aa (A9 (A7 (Am (DP (v1:=(.int _ _)) (v2:=(.int _ _)) (v3:=(.int _ _)) rfl rfl rfl rfl rfl ?_)))))))))
    exact ⟨by rw [if_neg (by omega)],HG.ext.trans H.ext⟩
   ·intro h3
    replace h3:=AF h3
    rw [if_pos (by omega)]
    replace H:=HG.call H.ext
    refine Aw (A2 (Aa (Af (Bo rfl Ac4 H ?_))))
    rintro b7 w - H
    refine BV (.func _ _ _) rfl Acy rfl rfl rfl H at0 (by decide) ?_
    rintro w H
    refine Ab (Aa (Af (Bq rfl C6 Cp rfl H at2 rfl (Ch rfl [.pointer _,.pointer _] rfl (Al rfl Sb (MR r q 101 [ptr b7,ptr b3] (toF k) _ (RA.ext0 H.ext) hr WW.de WW.len Aav (fun i e x w' _ _ _ hx=>X9 k e x b7 b3 w' (hx.to (H.get at0) (by simp)) (hx.to (H.get at1) (by simp))) (fun j hj=>by have:=IC WW (XB k) j hj; have:=WW.d64; omega)) rfl ?_)))))
    rintro v w ⟨rfl,hx21⟩
    replace H:=H.call hx21
    refine Ae rfl rfl (Ab (Aa (Af (Bq rfl C6 Cp rfl H at2 rfl (Ch rfl [.pointer _,.pointer _] rfl (Al rfl Sb (MR r q 102 [ptr b7,ptr b3] (frF k) _ (RA.ext0 H.ext) hr WW.de WW.len Aaw (fun i e x w' _ _ _ hx=>XA k e x b7 b3 w' (hx.to (H.get at0) (by simp)) (hx.to (H.get at1) (by simp))) (fun j hj=>by have:=IC WW (XC k) j hj; have:=WW.d64; omega)) rfl ?_))))))
    rintro v w ⟨rfl,hx24⟩
    replace H:=H.call hx24
    refine Ae rfl rfl (Ab (Aa (Af (Ad rfl rfl (Ad rfl rfl (Ae rfl rfl (Ae rfl rfl (Ae rfl rfl (Ab (Aa (A9 (DP (v1:=(.int _ _)) (v2:=(.int _ _)) (v3:=(.int _ _)) rfl rfl rfl rfl rfl ?_))))))))))))
    exact ⟨rfl,H.ext⟩
def HX (r:Rnd):Int × Int:=if B7 r=true then (Ei r woF r.ids.length,0) else (0,1)
theorem XD {r:Rnd} (W:WR r) {k:Nat} (hk:k≤r.ids.length) : -4611686018427387904≤Ei r woF k∧Ei r woF k≤4611686018427387904:=by
 have:=Zu W.wi (k:=k) (by have:=W.de; omega)
 rw [SQ]
 omega
theorem XE {r:Rnd} (W:WR r) {i:Nat} {e:Ed} (hi:i<r.ids.length) (he:r.es[i]? = some e) : -1000≤e.cost∧e.cost≤1000:=by
 have:=Pz (W.due i e hi he)
 omega
set_option maxRecDepth 20000 in
theorem Oh (r:Rnd) (q:RSl) (w:World) (RA:RAt w r q) (hEc:r.es.length≤q.cE) (hr:RBnd r):Ret Tryz.prog 44 #[.agg (AJ r q).toArray] w fun v w'=>v = .tuple #[.int .i64 (HX r).1,.int .i64 (HX r).2]∧Ext [] w w':=by
 obtain ⟨w0,rfl⟩:∃ w0,w0=w:=⟨_,rfl⟩
 have H:=Ctx.start w0 []
 obtain ⟨wr,hwr⟩:∃ wr,wr=B7 r:=⟨_,rfl⟩
 refine A0 (fn:=Tryz.f44) Tryz.func44 rfl [.agg (AJ r q).toArray] rfl (by kernel_rfl) ?_
 refine Af (B2 rfl (AJ r q) (.agg _) rfl rfl H ?_)
 rintro b1 w - H
 refine Ae rfl rfl (Ae rfl rfl (Ab (Aa (Aq (Af (Bq rfl C6 Cp rfl H at0 rfl (Al rfl Lj (Fc r q _ (RA.ext0 H.ext) hEc hr) rfl ?_)))))))
 rintro v w ⟨rfl,hx5⟩
 replace H:=H.call hx5
 rw [← hwr]
 refine Bv rfl rfl (Ab (Aa (Ax _ rfl ?_ ?_)))
 ·intro h1
  replace h1:=B0 h1
  refine Af (Ae rfl rfl (Ae rfl rfl (Ab (Aa (A9 (Am (DE (v1:=(.int _ _)) (v2:=(.int _ _)) rfl rfl rfl rfl ?_)))))))
  have h1':B7 r=false:=by rw [← hwr]; simpa using h1
  exact ⟨by unfold HX; rw [if_neg (by rw [h1']; decide)],H.ext⟩
 ·intro h1
  replace h1:=B1 h1
  have h1':B7 r=true:=by rw [← hwr]; simpa using h1
  have WW:=Ko h1'
  have hP:HX r=(Ei r woF r.ids.length,0):=by unfold HX; rw [if_pos h1']
  rw [hP]
  refine Aw (Aa (Af (Bq rfl C6 Cp rfl H at0 rfl (Al rfl Sb (MR r q 103 [] woF _ (RA.ext0 H.ext) hr WW.de WW.len Aax (fun i e x w' hi he hxx _=>Vn e x w' (by have:=TX WW.wi he hxx; omega) (XE WW hi he) (by rw [Ub,Int.mul_comm]; have:=TX WW.wi he hxx; omega)) (fun j hj=>XD WW hj)) rfl ?_))))
  rintro v w ⟨rfl,hx8⟩
  replace H:=H.call hx8
  refine Ae rfl rfl (Ae rfl rfl (Ab (Aa (A9 (DE (v1:=(.int _ _)) (v2:=(.int _ _)) rfl rfl rfl rfl ?_)))))
  exact ⟨rfl,H.ext⟩
end Go.Proofs.YtapphbmlkdhnmaaGreat

/- The plain law of the sum of 32 bits: what is turned within 32 bits in a row is seen. -/
namespace Go.Proofs.YtapphbmlkdhnmaaGreat

def MT:BitVec 32:=0xedb88320#32
def ID (w:BitVec 32):BitVec 32:=(w >>> 1) ^^^ (if w.getLsbD 0 then MT else 0#32)
def Zz (x:BitVec 32):BitVec 32:=if x.getLsbD 31 then ((x ^^^ MT) <<< 1) ||| 1#32 else x <<< 1
def CM:Nat→BitVec 32→BitVec 32
 | 0,w=>w
 | n+1,w=>CM n (ID w)
def QT:Nat→BitVec 32→BitVec 32
 | 0,w=>w
 | n+1,w=>Zz (QT n w)
def E1 (c:UInt8):BitVec 32:=BitVec.ofNat 32 c.toNat
def Js (w:BitVec 32) (c:UInt8):BitVec 32:=CM 8 (w ^^^ E1 c)
def Aae (s:BitVec 32) (l:List UInt8):BitVec 32 := ~~~ (l.foldl Js (~~~ s))
def SR (l:List UInt8):BitVec 32:=Aae 0#32 l

theorem XF (a b:BitVec 32):ID (a ^^^ b)=ID a ^^^ ID b:=by
 unfold ID
 rw [BitVec.getLsbD_xor,BitVec.ushiftRight_xor_distrib]
 cases a.getLsbD 0 <;> cases b.getLsbD 0 <;> simp only [Bool.xor_false,Bool.xor_true,Bool.not_true,Bool.not_false,if_true,Bool.false_eq_true,if_false,BitVec.xor_zero]
 ·ac_rfl
 ·ac_rfl
 ·rw [show a >>> 1 ^^^ MT ^^^ (b >>> 1 ^^^ MT)=a >>> 1 ^^^ b >>> 1 ^^^ (MT ^^^ MT) by ac_rfl,BitVec.xor_self,BitVec.xor_zero]
theorem KQ:∀ (n:Nat) (a b:BitVec 32),CM n (a ^^^ b)=CM n a ^^^ CM n b
 | 0,_,_=>rfl
 | n+1,a,b=>by simp only [CM]; rw [XF,KQ n]
theorem Gk:∀ (m n:Nat) (w:BitVec 32),CM n (CM m w)=CM (m+n) w
 | 0,n,w=>by simp [CM]
 | m+1,n,w=>by rw [Nat.succ_add]; simp only [CM]; exact Gk m n _
theorem Vo:E1 0=0#32:=rfl
def xorL:List UInt8→List UInt8→List UInt8
 | a::l,b::m=>(a ^^^ b)::xorL l m
 | _,_=>[]
theorem take_zero (w:BitVec 32):Js w 0=CM 8 w:=by rw [Js,Vo,BitVec.xor_zero]
theorem Oi:∀ (n:Nat) (w:BitVec 32),(∀ i,i<n→w.getLsbD i=false)→CM n w=w >>> n
 | 0,w,_=>by simp [CM]
 | n+1,w,h=>by
  have h0:ID w=w >>> 1:=by
   unfold ID; rw [h 0 (by omega)]; simp
  simp only [CM]
  rw [h0,Oi n (w >>> 1) (fun i hi=>by rw [BitVec.getLsbD_ushiftRight]; exact h _ (by omega)),← BitVec.shiftRight_add,Nat.add_comm 1 n]
theorem P0 (c:UInt8) (n:Nat) (hn:n≤24):CM n (E1 c <<< n)=E1 c:=by
 rw [Oi n _ (fun i hi=>by simp [BitVec.getLsbD_shiftLeft,hi])]
 have hc:c.toNat<256:=c.toNat_lt
 apply BitVec.eq_of_toNat_eq
 unfold E1
 rw [BitVec.toNat_ushiftRight,BitVec.toNat_shiftLeft,BitVec.toNat_ofNat,Nat.mod_eq_of_lt (by omega:c.toNat<2 ^ 32),Nat.shiftLeft_eq]
 have h1:c.toNat*2 ^ n<2 ^ 32:=by
  have h2:2 ^ n≤2 ^ 24:=Nat.pow_le_pow_right (by omega) hn
  calc c.toNat*2 ^ n≤255*2 ^ 24:=Nat.mul_le_mul (by omega) h2
   _<2 ^ 32:=by decide
 rw [Nat.mod_eq_of_lt h1,Nat.shiftRight_eq_div_pow,Nat.mul_div_cancel _ (Nat.two_pow_pos n)]

/-- A word's four bytes. -/
def Aaf (a b c d:UInt8):BitVec 32:=E1 a ^^^ (E1 b <<< 8) ^^^ (E1 c <<< 16) ^^^ (E1 d <<< 24)
theorem four (w:BitVec 32) (a b c d:UInt8):[a,b,c,d].foldl Js w=CM 32 (w ^^^ Aaf a b c d):=by
 have ha:CM 32 (E1 a)=CM 32 (E1 a):=rfl
 have hb:CM 24 (E1 b)=CM 32 (E1 b <<< 8):=by
  rw [← Gk 8 24,P0 b 8 (by omega)]
 have hc:CM 16 (E1 c)=CM 32 (E1 c <<< 16):=by
  rw [← Gk 16 16,P0 c 16 (by omega)]
 have hd:CM 8 (E1 d)=CM 32 (E1 d <<< 24):=by
  rw [← Gk 24 8,P0 d 24 (by omega)]
 simp only [List.foldl_cons,List.foldl_nil,Js,KQ,Gk]
 rw [hb,hc,hd,show 8+(8+(8+8))=32 from rfl]
 simp only [Aaf,KQ]
 ac_rfl
def burstB (o v:Nat):Bool:=(QT 32 (BitVec.ofNat 32 v)).toNat % 2 ^ o == 0
end Go.Proofs.YtapphbmlkdhnmaaGreat

/- The sums of crc and of its reference. -/
namespace Go.Proofs.YtapphbmlkdhnmaaGreat
open Go.GV
attribute [local irreducible] A1 W Wq



theorem GN (b:UInt8):b.toNat<256:=b.toNat_lt
theorem Kp (w:BitVec 32):w.toNat<4294967296:=w.isLt
theorem Aag (s:BitVec 32):4294967295 ^^^ s.toNat=(~~~s).toNat:=by
 rw [← BitVec.allOnes_xor,BitVec.toNat_xor,BitVec.toNat_allOnes]
theorem XG (c:UInt8):(E1 c).toNat=c.toNat:=by
 have:=GN c
 unfold E1
 rw [BitVec.toNat_ofNat,Nat.mod_eq_of_lt (by omega)]
theorem xor_b (w:BitVec 32) (c:UInt8):w.toNat ^^^ c.toNat=(w ^^^ E1 c).toNat:=by
 rw [BitVec.toNat_xor,XG]
theorem Z0 (w:BitVec 32):w.getLsbD 0=decide (w.toNat % 2=1):=by
 rw [BitVec.getLsbD,Nat.testBit_zero]
theorem XH (w:BitVec 32):(w.toNat / 2) ^^^ (if w.toNat % 2=1 then 3988292384 else 0)=(ID w).toNat:=by
 unfold ID
 rw [BitVec.toNat_xor,BitVec.toNat_ushiftRight,Nat.shiftRight_eq_div_pow,Z0]
 by_cases h:w.toNat % 2=1
 ·simp [h,MT]
 ·simp [h]
theorem Vp (w:BitVec 32):(w.toNat / 2 ^ 1) ^^^ ((3988292384*(w.toNat &&& 1)) % 4294967296)=(ID w).toNat:=by
 rw [← XH,Nat.and_one_is_mod]
 by_cases h:w.toNat % 2=1
 ·simp [h]
 ·have h0:w.toNat % 2=0:=by omega
  simp [h0]
theorem SU (n:Nat) (w:BitVec 32):ID (CM n w)=CM (n+1) w:=by
 rw [← Gk n 1]; rfl

theorem Z1 (s:BitVec 32) (a:Option Addr) (c:Nat) (l:List UInt8) (w:World) (R:Rd w a 1 B8 l) (hm:l.length≤9223372036854775807) :
  Ret Tryz.prog 149 #[.int .u32 (s.toNat:Int),.slice a l.length c] w fun v w'=>v = .int .u32 ((Aae s l).toNat:Int)∧w=w':=by
 have hs:=Kp s
 refine A0 (fn:=Tryz.f149) Tryz.func149 rfl [.int .u32 (s.toNat:Int),.slice a l.length c] rfl (by kernel_rfl) ?_
 refine Af (Ae rfl rfl (Ab (Aa (Af (Ad rfl rfl (Me rfl rfl (by omega) ?_))))))
 rw [Aag]
 refine Ae rfl rfl (Ab (Aa (Aq (Af (Ak rfl rfl (Be rfl Dq rfl (Ad rfl rfl (Ab (Aa (Av (Bm 1073737888 (α:=Nat) (fun k=>[(12,.int .i64 k),(5,.int .u32 (((l.take k).foldl Js (~~~s)).toNat:Int))]) (fun k w'=>k≤l.length∧w=w') (fun k=>l.length - k) 0 rfl ?_ ?_ ?_)))))))))))
 ·exact ⟨rfl,rfl,trivial⟩
 ·exact ⟨Nat.zero_le _,rfl⟩
 ·rintro k j _ ⟨hk,rfl⟩
  refine Af (AV rfl rfl rfl (Ab (Aa (Aq (Ax _ rfl ?_ ?_)))))
  ·intro h1
   replace h1:=AE h1
   obtain ⟨x,hx⟩:=A4 (l:=l) (i:=k) (by omega)
   have hxb:=GN x
   have hw:=Kp ((l.take k).foldl Js (~~~s))
   generalize hv:(l.take k).foldl Js (~~~s)=v at hw
   refine Aw (Aa (Aq (Av (Af (Ba R rfl Dq Ix rfl rfl (by omega) (by omega) (by rfl) ?_)))))
   refine AY rfl ag_5 rfl (R.one (f:=bv) hx) ?_
   refine Ae rfl rfl (Ab (Aa (Af (Ad rfl rfl (Ad rfl rfl (Lf rfl rfl JY W8 (by omega) (by omega) ?_))))))
   refine Mc rfl rfl rfl (by omega) (by omega) ?_
   rw [xor_b]
   refine Ae rfl rfl (Ab (Aa (Af (Ad rfl rfl (Ab (Aa (Av (Bm 535822368 (α:=Nat) (fun i=>[(20,.int .i64 i),(5,.int .u32 ((CM i (v ^^^ E1 x)).toNat:Int))]) (fun i w'=>i≤8∧w=w') (fun i=>8 - i) 0 rfl ?_ ?_ ?_))))))))
   ·exact ⟨rfl,rfl,trivial⟩
   ·exact ⟨Nat.zero_le _,rfl⟩
   ·rintro i j _ ⟨hi,rfl⟩
    have hu:=Kp (CM i (v ^^^ E1 x))
    generalize hz:CM i (v ^^^ E1 x)=z at hu
    refine Af (AV rfl rfl rfl (Ab (Aa (Aq (Ax _ rfl ?_ ?_)))))
    ·intro h2
     replace h2:=AE h2
     refine Aw (Aa (Aq (Av (Ap (Ad rfl rfl (Md (n:=1) rfl rfl rfl (by omega) ?_))))))
     refine Ad rfl rfl (RK (b:=1) rfl rfl rfl (by omega) (by omega) ?_)
     refine PT (a:=3988292384) rfl rfl rfl ?_
     refine Mc rfl rfl rfl (by omega) (by omega) ?_
     rw [Vp]
     refine Ae rfl rfl (Ab (A2 (Aa (Ap (Ao rfl rfl rfl (by omega) (by omega) ?_)))))
     refine Ad rfl rfl (Ab (Aa ?_))
     exact ⟨i+1,rfl,⟨rfl,by rw [← SU,hz]; rfl,trivial⟩,⟨by omega,rfl⟩,by omega⟩
    ·intro h2
     replace h2:=AF h2
     have hi8:i=8:=by omega
     subst hi8
     refine Bh (Aj (Aj (AB (A2 (Aa (Ap (Ao rfl rfl rfl (by omega) (by omega) ?_)))))))
     refine Ad rfl rfl (Ab (Aa ?_))
     refine ⟨k+1,rfl,⟨rfl,?_,trivial⟩,⟨by omega,rfl⟩,by omega⟩
     rw [Cv hx,List.foldl_append,hv,List.foldl_cons,List.foldl_nil,Js,hz]; rfl
  ·intro h1
   replace h1:=AF h1
   have hke:k=l.length:=by omega
   subst hke
   rw [List.take_length]
   have hw:=Kp (l.foldl Js (~~~s))
   refine Bh (Aj (Aj (AB (Aa (Af (Ad rfl rfl (Me rfl rfl (by omega) ?_)))))))
   rw [Aag]
   refine Ae rfl rfl (Ab (Aa (A9 (AC (v:=(.int _ _)) rfl rfl rfl ?_))))
   exact ⟨rfl,rfl⟩

theorem XI (a:Option Addr) (c n:Nat) (l:List UInt8) (w:World) (R:Rd w a 1 B8 l) (hn:l.length=n) (hm:n≤9223372036854775807) :
  Ret Tryz.prog 88 #[.slice a n c] w fun v w'=>v = .int .u32 ((SR l).toNat:Int)∧w=w':=by
 subst hn
 refine A0 (fn:=Tryz.f88) Tryz.func88 rfl [.slice a l.length c] rfl (by kernel_rfl) ?_
 refine Af (Ae rfl rfl (Ab (Aa (Af (Ak rfl rfl (Al rfl Abg (Z1 0#32 a c l w R hm) rfl ?_))))))
 rintro v w ⟨rfl,rfl⟩
 refine Ae rfl rfl (Ab (Aa (A9 (AC (v:=(.int _ _)) rfl rfl rfl ?_))))
 exact ⟨rfl,rfl⟩

/-- The number that bytes are, the least first. -/
def F2:List UInt8→Nat
 | []=>0
 | c::l=>c.toNat+256*F2 l
theorem QU:∀ (l m:List UInt8),F2 (l++m)=F2 l+256 ^ l.length*F2 m
 | [],m=>by simp [F2]
 | c::l,m=>by
  have h:=QU l m
  simp only [List.cons_append,F2,List.length_cons,h,Nat.pow_succ]
  rw [Nat.mul_add,← Nat.mul_assoc,Nat.mul_comm (256 ^ l.length) 256]; omega
theorem P5:∀ l:List UInt8,F2 l<256 ^ l.length
 | []=>by simp [F2]
 | c::l=>by
  have h:=P5 l
  have hc:=GN c
  simp only [F2,List.length_cons,Nat.pow_succ]; omega
theorem Vq {l:List UInt8} {k:Nat} {c:UInt8} (hk:l[k]? = some c) (h4:k<4):F2 (l.take k) ||| (c.toNat*2 ^ (8*k) % 4294967296)=F2 (l.take (k+1)):=by
 have hl:=Cr hk
 have hlen:(l.take k).length=k:=by rw [List.length_take]; omega
 have h1:=P5 (l.take k)
 rw [hlen] at h1
 have h2:(256:Nat) ^ k=2 ^ (8*k):=by rw [Nat.pow_mul]
 have hc:=GN c
 have h3:c.toNat*2 ^ (8*k)<4294967296:=by
  have:k=0∨k=1∨k=2∨k=3:=by omega
  rcases this with h | h | h | h <;> subst h <;> omega
 rw [Cv hk,QU,hlen,Nat.mod_eq_of_lt h3,Nat.or_comm,Nat.mul_comm c.toNat,← Nat.two_pow_add_eq_or_of_lt (by rw [← h2]; exact h1),h2]
 simp only [F2,Nat.mul_zero,Nat.add_zero]; omega

def EA (b:List UInt8):Bool:=decide (4≤b.length) && decide ((SR (b.take (b.length - 4))).toNat=F2 (b.drop (b.length - 4)))

theorem QV (a:Option Addr) (c:Nat) (l:List UInt8) (w:World) (R:Rd w a 1 B8 l) (hm:l.length≤9223372036854775807) (hc:l.length≤c) :
  Ret Tryz.prog 78 #[.slice a l.length c] w fun v w'=>v = .bool (EA l)∧w=w':=by
 refine A0 (fn:=Tryz.f78) Tryz.func78 rfl [.slice a l.length c] rfl (by kernel_rfl) ?_
 refine Af (Ai rfl rfl (Ab (Aa (Af (Ak rfl rfl (Be rfl Dq rfl (Bc rfl rfl rfl (by omega) (by omega) ?_)))))))
 refine Ae rfl rfl (Ab (Aa (Aq (Af (Ad rfl rfl (AV rfl rfl rfl (Ab (Aa (Ax _ rfl ?_ ?_)))))))))
 ·intro h1
  replace h1:=AE h1
  refine Af (Ai rfl rfl (Ab (Aa (A9 (Am (AC (v:=(.bool _)) rfl rfl rfl ?_))))))
  exact ⟨congrArg Value.bool (by rw [EA,decide_eq_false (by omega)]; rfl),rfl⟩
 ·intro h1
  replace h1:=AF h1
  obtain ⟨m,hm4⟩:∃ m,l.length=m+4:=⟨l.length - 4,by omega⟩
  rw [show (l.length:Int) - 4=(m:Int) by omega]
  have R':=R.cut m c hc
  have hd:(l.drop m).length=4:=by rw [List.length_drop]; omega
  refine Aw (Aa (Af (Ae rfl rfl (Ab (Aa (Aq (Af (Ak rfl rfl (Ad rfl rfl (FG rfl Dq Ix rfl rfl (by omega) (by omega) ?_))))))))))
  refine Be rfl Dq rfl (Ad rfl rfl (Ab (Aa (Av ?_))))
  rw [show l.length - ((m:Int)).toNat=4 by omega]
  refine Bm 536805488 (α:=Nat) (fun k=>[(16,.int .i64 k),(4,.int .u32 (F2 ((l.drop m).take k):Int))]) (fun k w'=>k≤4∧w=w') (fun k=>4 - k) 0 rfl ?_ ?_ ?_
  ·exact ⟨rfl,rfl,trivial⟩
  ·exact ⟨Nat.zero_le _,rfl⟩
  ·rintro k j _ ⟨hk,rfl⟩
   refine Af (AV rfl rfl rfl (Ab (Aa (Aq (Ax _ rfl ?_ ?_)))))
   ·intro h2
    replace h2:=AE h2
    obtain ⟨x,hx⟩:=A4 (l:=l.drop m) (i:=k) (by omega)
    have hxb:=GN x
    have hw:F2 ((l.drop m).take k)<4294967296:=by
     have h:=P5 ((l.drop m).take k)
     have h2:256 ^ ((l.drop m).take k).length≤256 ^ 4:=Nat.pow_le_pow_right (by omega) (by rw [List.length_take]; omega)
     have h3:(256:Nat) ^ 4=4294967296:=by decide
     omega
    refine Aw (Aa (Aq (Av (Af (Ad rfl rfl (Ba R' rfl Dq Ix rfl rfl (by omega) (by omega) (by omega) ?_))))))
    refine AY rfl ag_5 rfl (R'.one (f:=bv) hx) ?_
    refine Ae rfl rfl (Ae rfl rfl (Ab (Aa (Ap (Ad rfl rfl (Ad rfl rfl (Lf rfl rfl JY W8 (by omega) (by omega) ?_)))))))
    refine Ad rfl rfl (C5 rfl rfl rfl (by omega) (by omega) ?_)
    rw [show (8:Int)*(k:Int)=((8*k:Nat):Int) from by simp]
    refine RM rfl rfl rfl (by omega) ?_
    refine Uy rfl rfl rfl (by omega) (by omega) ?_
    rw [Vq hx (by omega)]
    refine Ae rfl rfl (Ab (A2 (Aa (Ap (Ao rfl rfl rfl (by omega) (by omega) ?_)))))
    refine Ad rfl rfl (Ab (Aa ?_))
    exact ⟨k+1,rfl,⟨rfl,rfl,trivial⟩,⟨by omega,rfl⟩,by omega⟩
   ·intro h2
    replace h2:=AF h2
    have hk4:k=4:=by omega
    subst hk4
    rw [show (l.drop m).take 4=l.drop m from List.take_of_length_le (by omega)]
    refine Bh (Aj (Aj (AB (Aa (Af (Ak rfl rfl (Ad rfl rfl (FH rfl Dq Ix rfl rfl (by omega) (by omega) ?_))))))))
    refine Al rfl ZR (XI a c m (l.take m) w (R.take m) (by rw [List.length_take]; omega) (by omega)) rfl ?_
    rintro v w ⟨rfl,rfl⟩
    refine Ad rfl rfl (Cg rfl rfl rfl (Ai rfl rfl (Ab (Aa (A9 (AC (v:=(.bool _)) rfl rfl rfl ?_))))))
    refine ⟨congrArg Value.bool ?_,rfl⟩
    rw [EA,decide_eq_true (show 4≤l.length by omega),Bool.true_and,show l.length - 4=m by omega]
    exact decide_eq_decide.2 (by omega)

/-! ### The reference -/
end Go.Proofs.YtapphbmlkdhnmaaGreat

/- Numbers as bytes; copies of bytes. -/
namespace Go.Proofs.YtapphbmlkdhnmaaGreat
open Go.GV
attribute [local irreducible] A1 W Wq

theorem Fresh.rdB {w w':World} {t:Nat} {s:Value} {xs:List UInt8} (h:Fresh w w' t 1 s (xs.map bv)):∃ a c,s = .slice a xs.length c∧Rd w' a 1 B8 xs∧xs.length≤c:=by
 obtain ⟨a,n,c,full,rfl,O,hb⟩:=h.ex
 have hn:=O.num
 subst hn
 exact ⟨a,c,rfl,O.rd1 (t:=t) fun x hx=>(hb x hx).1,O.le⟩
theorem Rd.appB {w:World} {a:Option Addr} {l:List UInt8} (R:Rd w a 1 B8 l):∀ j v,(l.map bv)[j]? = some v→∃ p,a=some p∧w.cell? (p.add j)=some v:=Rd.app1 (f:=bv) R
theorem OS.rdB {w:World} {a:Option Addr} {n c:Nat} {t:TypeId} {full:List Value} {xs:List UInt8} (h:OS a n c 1 full (xs.map bv)) (hb:∀ x∈ent a t full,w.heap[x.1]? = some x.2):Rd w a 1 B8 xs:=OS.rd1 h hb

theorem Fresh.since {w0 w w':World} {t s:Nat} {v:Value} {l:List Value} (h:Fresh w w' t s v l) (hx:Ext [] w0 w):Fresh w0 w' t s v l :=
 ⟨let ⟨a,n,c,full,h1,h2,h3⟩:=h.ex; ⟨a,n,c,full,h1,h2,fun x hx'=>⟨(h3 x hx').1,Nat.le_trans hx.size (h3 x hx').2⟩⟩,hx.trans h.ext⟩

theorem XJ (a:Option Addr) (c n:Nat) (l:List UInt8) (w:World) (R:Rd w a 1 B8 l) (hn:l.length=n) (hm:n≤140737488351232) :
  Ret Tryz.prog 147 #[.slice a n c] w fun v w'=>Fresh w w' 5 1 v (l.map bv)∧(a=none→v = .slice none 0 0):=by
 subst hn
 obtain ⟨w0,rfl⟩:∃ w0,w0=w:=⟨_,rfl⟩
 have H:=Ctx.start w0 []
 refine A0 (fn:=Tryz.f147) Tryz.func147 rfl [.slice a l.length c] rfl (by kernel_rfl) ?_
 refine Af (A6 rfl rfl (Ab (Aa (Aq (Af (Ak rfl rfl (K5 rfl Dq rfl (Ab (Aa (Ax _ rfl ?_ ?_))))))))))
 ·intro h1
  have ha:a=none:=by simpa using h1
  subst ha
  have hl:l=[]:=by
   cases l with
   | nil=>rfl
   | cons x l=>obtain ⟨b,o,h⟩:=R.some' (by simp); cases h
  subst hl
  refine Af (A6 rfl rfl (Ab (Aa (A9 (Am (AC (v:=(.slice _ _ _)) rfl rfl rfl ?_))))))
  exact ⟨Fresh.nil H _ _,fun _=>rfl⟩
 ·intro h1
  refine Aw (Aa (Af (IQ rfl Dq Ix H ?_)))
  rintro b5 w H O
  refine Ak rfl rfl (E4 rfl Dq Dq Ix Wb Nq rfl (by decide) (l.map bv) rfl rfl H O (by simp) (Aao l) (Rd.appB (R.ext0 H.ext)) (by omega) ?_)
  rintro a7 c7 full7 w H O
  refine A6 rfl rfl (Ab (Aa (A9 (AC (v:=(.slice _ _ _)) rfl rfl rfl ?_))))
  exact ⟨Ctx.fresh H (by simpa using O),fun h=>by subst h; cases h1⟩

/-! ### Sizes -/
def Ht (k:Int):Bool:=decide (k=1) || (decide (k=2) || (decide (k=4) || decide (k=8)))
theorem QW {k:Int} (h:Ht k=true):∃ n:Nat,k=n∧1≤n∧n≤8:=by
 simp only [Ht,Bool.or_eq_true,decide_eq_true_eq] at h
 exact ⟨k.toNat,by omega,by omega,by omega⟩
theorem Vr (k:Int):∃ z:Int,Option.getD (if k=8 then some (Value.int .i64 64) else if k=4 then some (Value.int .i64 32) else if k=2 then some (Value.int .i64 16) else if k=1 then some (Value.int .i64 8) else none) (Value.int .i64 0) = .int .i64 z∧decide (0<z)=Ht k:=by
 by_cases h8:k=8
 ·exact ⟨64,by simp [h8],by simp [Ht,h8]⟩
 by_cases h4:k=4
 ·exact ⟨32,by simp [h4],by simp [Ht,h4]⟩
 by_cases h2:k=2
 ·exact ⟨16,by simp [h2],by simp [Ht,h2]⟩
 by_cases h1:k=1
 ·exact ⟨8,by simp [h1],by simp [Ht,h1]⟩
 exact ⟨0,by simp [h8,h4,h2,h1],by simp [Ht,h8,h4,h2,h1]⟩
theorem Oj (k:Int) (w:World):Ret Tryz.prog 148 #[.int .i64 k] w fun v w'=>v = .bool (Ht k)∧Ext [] w w':=by
 obtain ⟨w0,rfl⟩:∃ w0,w0=w:=⟨_,rfl⟩
 have H:=Ctx.start w0 []
 refine A0 (fn:=Tryz.f148) Tryz.func148 rfl [.int .i64 k] rfl (by kernel_rfl) ?_
 refine Af (Ai rfl rfl (Ab (Aa (Af (LZ .i64 rfl H ?_)))))
 rintro b4 o4 w hM H
 refine IW (.int _ _) rfl Mz GW rfl rfl rfl H at0 hM ?_
 rintro o w hM H
 refine IW (.int _ _) rfl Mz GW rfl rfl rfl H at0 hM ?_
 rintro o w hM H
 refine IW (.int _ _) rfl Mz GW rfl rfl rfl H at0 hM ?_
 rintro o w hM H
 refine IW (.int _ _) rfl Mz GW rfl rfl rfl H at0 hM ?_
 rintro o w hM H
 refine PX rfl rfl (RQ rfl rfl (Ab (Aa (Af (PX rfl rfl (Ad rfl rfl (Uw rfl Mz GW zv_3 rfl rfl H at0 hM ?_)))))))
 simp only [Uv,VE]
 obtain ⟨z,hz,hzb⟩:=Vr k
 rw [hz]
 refine C4 rfl rfl rfl (Ai rfl rfl (Ab (Aa (A9 (AC (v:=(.bool _)) rfl rfl rfl ?_)))))
 exact ⟨congrArg Value.bool hzb,H.ext⟩
/-! ### Put -/
/-- k bytes of n, the greatest first. -/
def BG (n k:Nat):List UInt8:=(List.range k).map fun i=>UInt8.ofNat (n / 2 ^ (8*(k - 1 - i)))
theorem Dh (n k:Nat):(BG n k).length=k:=by simp [BG]
theorem Vs {n k i:Nat} (h:i<k):(BG n k).take (i+1)=(BG n k).take i++[UInt8.ofNat (n / 2 ^ (8*(k - 1 - i)))]:=Cv (Dd h)
theorem KS (x:Nat):Value.int .u8 ((x % 256:Nat):Int)=bv (UInt8.ofNat x):=by
 unfold bv; congr 2
def putB (l:List UInt8) (n:Nat) (k:Int):List UInt8:=bif Ht k then l++BG n k.toNat else l

set_option maxHeartbeats 1000000 in
theorem P6 (a:Option Addr) (c m:Nat) (l:List UInt8) (n:Nat) (k:Int) (w:World) (R:Rd w a 1 B8 l) (hml:l.length=m) (hm:m≤140737488351231) (_:n<18446744073709551616) :
  Ret Tryz.prog 85 #[.slice a m c,.int .u64 (n:Int),.int .i64 k] w fun v w'=>Fresh w w' 5 1 v ((putB l n k).map bv):=by
 subst hml
 obtain ⟨w0,rfl⟩:∃ w0,w0=w:=⟨_,rfl⟩
 refine A0 (fn:=Tryz.f85) Tryz.func85 rfl [.slice a l.length c,.int .u64 (n:Int),.int .i64 k] rfl (by kernel_rfl) ?_
 refine Af (A6 rfl rfl (Ab (Aa (Af (Ak rfl rfl (Al rfl Abf (XJ a c l.length l _ R rfl (by omega)) rfl ?_))))))
 rintro v w ⟨F,-⟩
 obtain ⟨a7,n7,c7,full7,rfl,O,hb⟩:=F.ex
 have hn7:n7=l.length:=OS.num O
 subst hn7
 have H:Ctx w0 [] w (ent a7 5 full7):=⟨F.ext,fun x hx=>(hb x hx).1,K8,fun x hx => .inr (hb x hx).2⟩
 refine A6 rfl rfl (Ab (Aa (Aq (Af (Ad rfl rfl (Al rfl Wg (Oj k _) rfl ?_))))))
 rintro v w ⟨rfl,hx⟩
 replace H:=H.call hx
 refine Bv rfl rfl (Ab (Aa (Ax _ rfl ?_ ?_)))
 ·intro h1
  replace h1:=B0 h1
  refine Af (Ak rfl rfl (A6 rfl rfl (Ab (Aa (A9 (Am (AC (v:=(.slice _ _ _)) rfl rfl rfl ?_)))))))
  rw [putB,h1]
  exact Ctx.fresh (L:=[]) H O
 ·intro h1
  replace h1:=B1 h1
  obtain ⟨q,rfl,hq1,hq8⟩:=QW h1
  rw [putB,h1,show ((q:Int)).toNat=q from rfl]
  refine Aw (Aa (Aq (Af (Ad rfl rfl (Ad rfl rfl (Ab (Aa (Av (Bm 2147418496 (α:=Nat × Option Addr × Nat × List Value) (fun x=>[(16,.int .i64 x.1),(7,.slice x.2.1 (l.length+x.1) x.2.2.1)]) (fun x w'=>x.1≤q∧Ctx w0 [] w' (ent x.2.1 5 x.2.2.2)∧OS x.2.1 (l.length+x.1) x.2.2.1 1 x.2.2.2 ((l++(BG n q).take x.1).map bv)) (fun x=>q - x.1) (0,a7,c7,full7) rfl ?_ ?_ ?_)))))))))
  ·exact ⟨rfl,rfl,trivial⟩
  ·exact ⟨Nat.zero_le _,H,by simpa using O⟩
  ·rintro ⟨i,a7,c7,full7⟩ j w ⟨hi,H,O⟩; dsimp only at hi H O; dsimp only
   refine Af (AV rfl rfl rfl (Ab (Aa (Aq (Ax _ rfl ?_ ?_)))))
   ·intro h2
    replace h2:=AE h2
    refine Aw (Aa (Aq (Av (Af (Ad rfl rfl (Ae rfl rfl (Ab (Aa (Ap (Ak rfl rfl (Ad rfl rfl ?_)))))))))))
    refine Ad rfl rfl (Bc rfl rfl rfl (by omega) (by omega) ?_)
    refine Ad rfl rfl (Bc rfl rfl rfl (by omega) (by omega) ?_)
    refine C5 rfl rfl rfl (by omega) (by omega) ?_
    rw [show (8:Int)*((q:Int) - 1 - (i:Int))=((8*(q - 1 - i):Nat):Int) from by omega]
    refine DZ rfl rfl rfl (by omega) ?_
    refine Lg rfl rfl FM JY ?_
    rw [KS]
    refine Db _ (.int _ _) rfl Dq Ix Nq rfl (by decide) (by decide) rfl rfl rfl H ?_
    rintro b28 w - H
    refine Dc (L:=[]) rfl Dq Dq Ix Wb Nq rfl (by decide) rfl rfl H O rfl (by simp [Bu]) (by omega) ?_
    rintro a9 c9 full9 w H O
    refine A6 rfl rfl (Ab (A2 (Aa (Ap (Ao rfl rfl rfl (by omega) (by omega) ?_)))))
    refine Ad rfl rfl (Ab (Aa ?_))
    refine ⟨(i+1,a9,c9,full9),rfl,⟨rfl,rfl,trivial⟩,⟨by omega,H,?_⟩,by dsimp only; omega⟩
    dsimp only
    have O':OS a9 (l.length+(i+1)) c9 1 full9 ((l++(BG n q).take i).map bv++[UInt8.ofNat (n / 2 ^ (8*(q - 1 - i)))].map bv):=O
    rw [← List.map_append,List.append_assoc,← Vs (by omega)] at O'
    exact O'
   ·intro h2
    replace h2:=AF h2
    have hiq:i=q:=by omega
    subst hiq
    refine Bh (Aj (Aj (AB (Aa (Af (Ak rfl rfl (A6 rfl rfl (Ab (Aa (A9 (AC (v:=(.slice _ _ _)) rfl rfl rfl ?_)))))))))))
    have hl:(BG n i).take i=BG n i:=List.take_of_length_le (by rw [Dh]; exact Nat.le_refl _)
    rw [hl] at O
    exact Ctx.fresh (L:=[]) H O

/-! ### Take -/
def numN (l:List UInt8):Nat:=l.foldl (fun n c=>n*256+c.toNat) 0
theorem Ol (l:List UInt8) (c:UInt8):numN (l++[c])=numN l*256+c.toNat:=by simp [numN]
theorem Kq (l:List UInt8):numN l<256 ^ l.length:=by
 have h:∀ (l:List UInt8) (n k:Nat),n<256 ^ k→l.foldl (fun n c=>n*256+c.toNat) n<256 ^ (k+l.length):=by
  intro l
  induction l with
  | nil=>intro n k h; simpa using h
  | cons c l ih =>
   intro n k h
   have hc:=GN c
   have:=ih (n*256+c.toNat) (k+1) (by rw [Nat.pow_succ]; omega)
   simpa [Nat.add_assoc,Nat.add_comm 1] using this
 have:=h l 0 0 (by simp)
 rw [Nat.zero_add] at this
 exact this
theorem XK {l:List UInt8} {i:Nat} {c:UInt8} (h:l[i]? = some c) (hi:i<8):(numN (l.take i)*2 ^ 8 % 18446744073709551616) ||| c.toNat=numN (l.take (i+1)):=by
 have h1:=Kq (l.take i)
 have hc:=GN c
 have hlen:(l.take i).length≤7:=by rw [List.length_take]; omega
 have h2:256 ^ (l.take i).length≤256 ^ 7:=Nat.pow_le_pow_right (by omega) hlen
 have h3:(256:Nat) ^ 7=72057594037927936:=by decide
 rw [Cv h,Ol,Nat.mod_eq_of_lt (by omega),Nat.mul_comm,← Nat.two_pow_add_eq_or_of_lt (by omega)]
def GO (l:List UInt8) (at' k:Int):Int:=bif Ht k && (decide (0≤at') && decide (at'≤l.length)) then (bif decide (k≤(l.length:Int) - at') then 0 else 5) else 1
def IE (l:List UInt8) (at' k:Int):Value:=bif decide (GO l at' k=0) then .tuple #[.int .u64 (numN ((l.drop at'.toNat).take k.toNat):Int),.int .i64 (at'+k),.int .i64 0] else .tuple #[.int .u64 0,.int .i64 0,.int .i64 (GO l at' k)]

set_option maxHeartbeats 1000000 in
theorem MU (a:Option Addr) (c m:Nat) (l:List UInt8) (at' k:Int) (w:World) (R:Rd w a 1 B8 l) (hml:l.length=m) (hm:m≤9223372036854775799) (hc:l.length≤c) :
  Ret Tryz.prog 145 #[.slice a m c,.int .i64 at',.int .i64 k] w fun v w'=>v=IE l at' k∧Ext [] w w':=by
 subst hml
 obtain ⟨w0,rfl⟩:∃ w0,w0=w:=⟨_,rfl⟩
 have H:=Ctx.start w0 []
 refine A0 (fn:=Tryz.f145) Tryz.func145 rfl [.slice a l.length c,.int .i64 at',.int .i64 k] rfl (by kernel_rfl) ?_
 refine Af (Ae rfl rfl (Ae rfl rfl (Ae rfl rfl (Ab (Aa (Aq (Av (Aq (Af (Ad rfl rfl ?_))))))))))
 refine Al rfl Wg (Oj k _) rfl ?_
 rintro v w ⟨rfl,hx⟩
 replace H:=H.call hx
 refine Bv rfl rfl (Ai rfl rfl (Ab (Aa (CV 11 rfl ?_ ?_))))
 ·intro h1
  replace h1:=B0 h1
  have he:GO l at' k=1:=by unfold GO; rw [h1]; rfl
  refine Aw (Aa (CI rfl (Af (Ae rfl rfl (Ae rfl rfl (Ae rfl rfl (Ab (Aa (A9 (A7 (Am (DP (v1:=(.int _ _)) (v2:=(.int _ _)) (v3:=(.int _ _)) rfl rfl rfl rfl rfl ?_))))))))))))
  exact ⟨by rw [IE,he]; rfl,H.ext⟩
 ·intro h1
  replace h1:=B1 h1
  refine Af (Ad rfl rfl (AV rfl rfl rfl (Ai rfl rfl (Ab (Aa (CV 11 rfl ?_ ?_))))))
  ·intro h2
   replace h2:=AE h2
   have he:GO l at' k=1:=by unfold GO; rw [decide_eq_false (show ¬ 0≤at' by omega),Bool.false_and,Bool.and_false]; rfl
   refine Aw (Aa (CI rfl (Af (Ae rfl rfl (Ae rfl rfl (Ae rfl rfl (Ab (Aa (A9 (A7 (Am (DP (v1:=(.int _ _)) (v2:=(.int _ _)) (v3:=(.int _ _)) rfl rfl rfl rfl rfl ?_))))))))))))
   exact ⟨by rw [IE,he]; rfl,H.ext⟩
  ·intro h2
   replace h2:=AF h2
   refine Ap (Ad rfl rfl (Ak rfl rfl (Be rfl Dq rfl (C4 rfl rfl rfl (Ai rfl rfl (Ab (Aa (CV 11 rfl ?_ ?_))))))))
   ·intro h3
    replace h3:=AE h3
    have he:GO l at' k=1:=by unfold GO; rw [decide_eq_false (show ¬ at'≤(l.length:Int) by omega),Bool.and_false,Bool.and_false]; rfl
    refine Af (Ae rfl rfl (Ae rfl rfl (Ae rfl rfl (Ab (Aa (A9 (A7 (Am (DP (v1:=(.int _ _)) (v2:=(.int _ _)) (v3:=(.int _ _)) rfl rfl rfl rfl rfl ?_)))))))))
    exact ⟨by rw [IE,he]; rfl,H.ext⟩
   ·intro h3
    replace h3:=AF h3
    obtain ⟨q,rfl,hq1,hq8⟩:=QW h1
    obtain ⟨o,rfl⟩:∃ o:Nat,at'=o:=⟨at'.toNat,by omega⟩
    have hE:GO l (o:Int) (q:Int)=bif decide ((q:Int)≤(l.length:Int) - (o:Int)) then 0 else 5:=by
     unfold GO; rw [h1,decide_eq_true (show (0:Int)≤(o:Int) by omega),decide_eq_true (show (o:Int)≤(l.length:Int) by omega)]; rfl
    refine Af (Ak rfl rfl (Be rfl Dq rfl (Ad rfl rfl (Bc rfl rfl rfl (by omega) (by omega) ?_))))
    refine Ad rfl rfl (AV rfl rfl rfl (Ai rfl rfl (Ab (Aa (Ax _ rfl ?_ ?_)))))
    ·intro h4
     replace h4:=AE h4
     rw [decide_eq_false (by omega)] at hE
     refine Af (Ae rfl rfl (Ae rfl rfl (Ae rfl rfl (Ab (Aa (A9 (A7 (Am (DP (v1:=(.int _ _)) (v2:=(.int _ _)) (v3:=(.int _ _)) rfl rfl rfl rfl rfl ?_)))))))))
     exact ⟨by rw [IE,hE]; rfl,H.ext⟩
    ·intro h4
     replace h4:=AF h4
     rw [decide_eq_true (by omega)] at hE
     have R':=((R.ext0 H.ext).cut o c hc).take q
     have hl:((l.drop o).take q).length=q:=by rw [List.length_take,List.length_drop]; omega
     refine Aw (A2 (Aa (Af (Ad rfl rfl (Ad rfl rfl (Ao rfl rfl rfl (by omega) (by omega) ?_))))))
     refine Ae rfl rfl (Ab (Aa (Aq (Af (Ak rfl rfl (Ad rfl rfl (Ad rfl rfl (Nk rfl Dq Ix rfl rfl rfl (by omega) (by omega) (by omega) ?_))))))))
     refine Be rfl Dq rfl (Ad rfl rfl (Ab (Aa (Av ?_))))
     rw [show ((o:Int)+(q:Int)).toNat - ((o:Int)).toNat=q by omega]
     refine Bm 70300024702016 (α:=Nat) (fun i=>[(36,.int .i64 i),(6,.int .u64 (numN (((l.drop o).take q).take i):Int))]) (fun i w'=>i≤q∧w=w') (fun i=>q - i) 0 rfl ?_ ?_ ?_
     ·exact ⟨rfl,rfl,trivial⟩
     ·exact ⟨Nat.zero_le _,rfl⟩
     ·rintro i j _ ⟨hi,rfl⟩
      refine Af (AV rfl rfl rfl (Ab (Aa (Aq (Ax _ rfl ?_ ?_)))))
      ·intro h5
       replace h5:=AE h5
       obtain ⟨x,hx⟩:=A4 (l:=(l.drop o).take q) (i:=i) (by omega)
       have hxb:=GN x
       have hlt:=Kq (((l.drop o).take q).take (i+1))
       have hst:=XK hx (by omega)
       refine Aw (Aa (Aq (Av (Af (Ba R' rfl Dq Ix rfl rfl (by omega) (by omega) (by omega) ?_)))))
       refine AY rfl ag_5 rfl (R'.one (f:=bv) hx) ?_
       refine Ae rfl rfl (Ab (Aa (Ap (Ad rfl rfl (Mf (n:=8) rfl rfl rfl (by omega) ?_)))))
       refine Ad rfl rfl (DB rfl rfl JY FM (by omega) (by omega) ?_)
       refine Uz rfl rfl rfl (Nat.mod_lt _ (by decide)) (by omega) ?_
       rw [hst]
       refine Ae rfl rfl (Ab (A2 (Aa (Ap (Ao rfl rfl rfl (by omega) (by omega) ?_)))))
       refine Ad rfl rfl (Ab (Aa ?_))
       exact ⟨i+1,rfl,⟨rfl,rfl,trivial⟩,⟨by omega,rfl⟩,by omega⟩
      ·intro h5
       replace h5:=AF h5
       have hiq:i=q:=by omega
       subst hiq
       rw [show ((l.drop o).take i).take i=(l.drop o).take i from List.take_of_length_le (by omega)]
       refine Bh (Aj (Aj (AB (Aa (Af (Ad rfl rfl (Ad rfl rfl (Ae rfl rfl (Ae rfl rfl (Ae rfl rfl (Ab (Aa (A9 (DP (v1:=(.int _ _)) (v2:=(.int _ _)) (v3:=(.int _ _)) rfl rfl rfl rfl rfl ?_))))))))))))))
       exact ⟨by rw [IE,hE]; rfl,H.ext⟩

end Go.Proofs.YtapphbmlkdhnmaaGreat

/- Numbers of eight bytes, and a round's bytes (what they are; the function that puts a row of numbers). -/
namespace Go.Proofs.YtapphbmlkdhnmaaGreat
open Go.GV
attribute [local irreducible] A1 W Wq Wt

/-! ### Numbers as bytes -/
/-- A number of 64 bits without its sign. -/
def u64 (n:Int):Nat:=(n % 18446744073709551616).toNat
theorem F8 (n:Int):u64 n<18446744073709551616:=by unfold u64; omega
theorem JC {n:Int} (h0:0≤n) (h1:n<18446744073709551616):((u64 n:Nat):Int)=n:=by unfold u64; omega
theorem QX (n:Int):IntKind.u64.wrap n=((u64 n:Nat):Int):=by
 have h:IntKind.u64.wrap n=n % 18446744073709551616:=rfl
 rw [h]
 unfold u64
 omega
theorem Aah (l:List UInt8) (n:Nat):putB l n 8=l++BG n 8:=rfl
/-- Numbers of eight bytes each. -/
def D7 (l:List Int):List UInt8:=l.flatMap fun n=>BG (u64 n) 8
theorem QY:D7 []=[]:=rfl
theorem KT (x:Int) (l:List Int):D7 (x::l)=BG (u64 x) 8++D7 l:=rfl
theorem QZ (l m:List Int):D7 (l++m)=D7 l++D7 m:=List.flatMap_append ..
theorem G7 (x:Int):D7 [x]=BG (u64 x) 8:=by rw [KT,QY,List.append_nil]
theorem Ft:∀ l:List Int,(D7 l).length=8*l.length
 | []=>rfl
 | x::l=>by
  rw [KT,List.length_append,Dh,Ft l,List.length_cons]
  omega
theorem Om {l:List Int} {i:Nat} {x:Int} (h:l[i]? = some x):D7 (l.take (i+1))=D7 (l.take i)++BG (u64 x) 8:=by
 rw [List.take_add_one,h,QZ]
 exact congrArg _ (G7 x)
/-- The byte of a number. -/
def by8 (n:Int):UInt8:=UInt8.ofNat (n % 256).toNat
theorem Z3 (n:Int):Value.int .u8 (n % 256)=bv (by8 n):=by
 unfold by8
 have h:n % 256=(((n % 256).toNat % 256:Nat):Int):=by omega
 rw [h,KS]
 congr 3
theorem LI (n:Int):Value.int .u8 (IntKind.u8.wrap n)=bv (by8 n):=by
 rw [← Z3]
 rfl

/-! ### A round's bytes -/
def eB (r:Rnd) (i:Nat) (e:Ed) (x:Int):List UInt8 :=
 if i<r.ids.length then BG (u64 (r.ids.getD i 0)) 8++[by8 e.f,by8 e.t]++BG (u64 e.cap) 8++BG (u64 (-e.cost)) 2++BG (u64 x) 8
 else if e.f=r.N - 1 then BG (u64 e.cap) 8++BG (u64 x) 8
 else BG (u64 x) 8
def esB (r:Rnd) (k:Nat):List UInt8:=(List.range k).flatMap fun i=>eB r i (r.es.getD i e0) (r.fl.getD i 0)
theorem IF {r:Rnd} {k:Nat} {e:Ed} {x:Int} (he:r.es[k]? = some e) (hx:r.fl[k]? = some x):esB r (k+1)=esB r k++eB r k e x:=by
 unfold esB
 rw [List.range_succ,List.flatMap_append,List.flatMap_singleton,AU he,AU hx]
theorem Adt (r:Rnd) (i:Nat) (e:Ed) (x:Int):(eB r i e x).length≤28:=by
 unfold eB
 split
 ·simp [Dh]
 ·split <;> simp [Dh]
theorem P7 (r:Rnd):∀ k,(esB r k).length≤28*k
 | 0=>by simp [esB]
 | k+1=>by
  have h1:=P7 r k
  unfold esB at h1 ⊢
  rw [List.range_succ,List.flatMap_append,List.flatMap_singleton,List.length_append]
  have:=Adt r k (r.es.getD k e0) (r.fl.getD k 0)
  omega
def gwit:List UInt8:=[71,87,73,84]
def BC (r:Rnd):List UInt8:=gwit++BG (u64 r.no) 8++BG (u64 r.day) 8++[bif r.cmp then 1 else 0,by8 (r.N - 1),by8 r.ids.length]
theorem Gl (r:Rnd):(BC r).length=23:=by simp [BC,gwit,Dh]
def G8 (r:Rnd):List UInt8:=BC r++esB r r.es.length++D7 r.pot
/-- Four bytes of a word, the least first. -/
def leB (s k:Nat):List UInt8:=(List.range k).map fun i=>UInt8.ofNat (s / 2 ^ (8*i))
theorem Uc (s k:Nat):(leB s k).length=k:=by simp [leB]
theorem XL (s k:Nat):leB s (k+1)=leB s k++[UInt8.ofNat (s / 2 ^ (8*k))]:=by simp [leB,List.range_succ]
def CF (r:Rnd):List UInt8:=G8 r++leB (SR (G8 r)).toNat 4

/-! ### The function that puts numbers -/
set_option maxHeartbeats 1000000 in
theorem Jh (a a2:Option Addr) (c c2 m:Nat) (bl:List UInt8) (l:List Int) (w:World) (R:Rd w a 1 B8 bl) (hm:bl.length=m) (hm2:m≤100000000) (R2:Rd w a2 1 I1 l) (n:Nat) (hn:l.length=n) (hl:n≤1000000) (h0:0<n) :
  Ret Tryz.prog 86 #[.slice a m c,.slice a2 n c2] w fun v w'=>Fresh w w' 5 1 v ((bl++D7 l).map bv):=by
 subst hm
 subst hn
 obtain ⟨w0,rfl⟩:∃ w0,w0=w:=⟨_,rfl⟩
 have H:=Ctx.start w0 []
 refine A0 (fn:=Tryz.f86) Tryz.func86 rfl [.slice a bl.length c,.slice a2 l.length c2] rfl (by kernel_rfl) ?_
 refine Af (A6 rfl rfl (Ab (Aa (Aq (Af (Ak rfl rfl (Be rfl AX rfl (Ad rfl rfl (Ab (Aa (Av ?_)))))))))))
 refine Bm 261697 (α:=Nat × Option Addr × Nat) (fun x=>[(9,.int .i64 (x.1:Int)),(0,.slice x.2.1 (bl.length+8*x.1) x.2.2)]) (fun x w'=>x.1≤l.length∧Ctx w0 [] w' []∧Rd w' x.2.1 1 B8 (bl++D7 (l.take x.1))∧(0<x.1→Fresh w0 w' 5 1 (.slice x.2.1 (bl.length+8*x.1) x.2.2) ((bl++D7 (l.take x.1)).map bv))) (fun x=>l.length - x.1) (0,a,c) rfl ?_ ?_ ?_
 ·exact ⟨rfl,rfl,trivial⟩
 ·exact ⟨Nat.zero_le _,H,by simpa [D7] using R,fun h=>absurd h (Nat.lt_irrefl 0)⟩
 ·clear H
  rintro ⟨i,ai,ci⟩ j w ⟨hi,H,Ri,Fi⟩; dsimp only at hi H Ri Fi; dsimp only
  refine Af (AV rfl rfl rfl (Ab (Aa (Aq (Ax _ rfl ?_ ?_)))))
  ·intro h1
   replace h1:=AE h1
   obtain ⟨x,hx⟩:=A4 (l:=l) (i:=i) (by omega)
   have hlen:(bl++D7 (l.take i)).length=bl.length+8*i:=by rw [List.length_append,Ft,List.length_take]; omega
   refine Aw (Aa (Aq (Av (Af (Ba R2 rfl AX Bw rfl rfl (by omega) (by omega) (by rfl) ?_)))))
   refine AY rfl B9 rfl (((R2.ext0 H.ext).fld hx rfl (j:=0) rfl)) ?_
   refine Ae rfl rfl (Ab (Aa (Ap (Ak rfl rfl (Ad rfl rfl (Gp rfl rfl Sn FM ?_))))))
   rw [QX]
   refine Al rfl T4 (P6 ai ci _ _ (u64 x) 8 _ Ri hlen (by omega) (F8 x)) rfl ?_
   rintro v w2 F0
   rw [Aah,List.append_assoc,← Om hx] at F0
   have F:=Fresh.since F0 H.ext
   obtain ⟨a9,c9,rfl,R9,-⟩:=Fresh.rdB F0
   have hlen2:(bl++D7 (l.take (i+1))).length=bl.length+8*(i+1):=by { rw [List.length_append,Ft,List.length_take]; omega }
   rw [hlen2] at F ⊢
   replace H:=H.call F0.ext
   refine A6 rfl rfl (Ab (A2 (Aa (Ap (Ao rfl rfl rfl (by omega) (by omega) ?_)))))
   refine Ad rfl rfl (Ab (Aa ?_))
   exact ⟨(i+1,a9,c9),rfl,⟨rfl,rfl,trivial⟩,⟨by omega,H,R9,fun _=>F⟩,by dsimp only; omega⟩
  ·intro h1
   replace h1:=AF h1
   obtain rfl:i=l.length:=by omega
   refine Bh (Aj (Aj (AB (Aa (Af (Ak rfl rfl (A6 rfl rfl (Ab (Aa (A9 (AC (v:=(.slice _ _ _)) rfl rfl rfl ?_)))))))))))
   have:=Fi h0
   rw [List.take_length] at this
   exact this
end Go.Proofs.YtapphbmlkdhnmaaGreat

/- The function that puts a right round's bytes. -/
namespace Go.Proofs.YtapphbmlkdhnmaaGreat
open Go.GV
attribute [local irreducible] A1 W Wq Wt

/-- What a round's words hold. -/
structure WU (r:Rnd):Prop where
 no:0≤r.no∧r.no<18446744073709551616
 ids:∀ x∈r.ids,0≤x∧x<18446744073709551616
 day:r.day<9223372036854775808
theorem P8 {w:World} {b t:Nat} {x:Int} (h:w.heap[b]? = some (Bl t [.int .i64 x])):Rd w (some ⟨b,0,none⟩) 1 I1 [x] :=
 Rd.of_bl (xs:=[x]) (enc:=I1) (r:=[]) h rfl (by simp)
theorem XM {w:World} {b t:Nat} {x y:Int} (h:w.heap[b]? = some (Bl t [.int .i64 x,.int .i64 y])):Rd w (some ⟨b,0,none⟩) 1 I1 [x,y] :=
 Rd.of_bl (xs:=[x,y]) (enc:=I1) (r:=[]) h rfl (by simp)
theorem Ji {w0 w w':World} {S:List Nat} {L:List (Nat × Obj)} {a a':Option Addr} {t:TypeId} {f f':List Value} (H:Ctx w0 S w (L++ent a t f)) (hx:Ext [] w w') (hb:∀ x∈ent a' t f',w'.heap[x.1]? = some x.2∧w.heap.size≤x.1):Ctx w0 S w' (L++ent a' t f') :=
 Ctx.left (L:=L++ent a' t f') (L':=ent a t f) ((Ctx.callEnt H hx hb K8).perm (by rw [List.append_assoc,List.append_assoc]; exact List.Perm.append_left L List.perm_append_comm))
theorem esB0 (r:Rnd):esB r 0=[]:=rfl
theorem one3 (l:List UInt8):∀ v∈l.map bv,Bu v=true:=fun v hv=>by
 obtain ⟨x,-,rfl⟩:=List.mem_map.1 hv
 rfl
set_option maxRecDepth 20000 in
set_option maxHeartbeats 8000000 in
theorem P9 (r:Rnd) (q:RSl) (w:World) (RA:RAt w r q) (hEc:r.es.length≤q.cE) (hr:RBnd r) (hu:WU r):Ret Tryz.prog 29 #[.agg (AJ r q).toArray] w fun v w' =>
  (B7 r=true→∃ s,v = .tuple #[s,.int .i64 0]∧Fresh w w' 5 1 s ((CF r).map bv))∧(B7 r=false→v = .tuple #[.slice none 0 0,.int .i64 1]∧Ext [] w w'):=by
 obtain ⟨w0,rfl⟩:∃ w0,w0=w:=⟨_,rfl⟩
 have H:=Ctx.start w0 []
 obtain ⟨wr,hwr⟩:∃ wr,wr=B7 r:=⟨_,rfl⟩
 refine A0 (fn:=Tryz.f29) Tryz.func29 rfl [.agg (AJ r q).toArray] rfl (by kernel_rfl) ?_
 refine Af (B2 rfl (AJ r q) (.agg _) rfl rfl H ?_)
 rintro b1 w - H
 refine A6 rfl rfl (Ae rfl rfl (Ab (Aa (Aq (Af (Bq rfl C6 Cp rfl H at0 rfl (Al rfl Lj (Fc r q _ (RA.ext0 H.ext) hEc hr) rfl ?_)))))))
 rintro v w ⟨rfl,hx11⟩
 replace H:=H.call hx11
 rw [← hwr]
 refine Bv rfl rfl (Ab (Aa (Ax _ rfl ?_ ?_)))
 ·intro h1
  replace h1:=B0 h1
  refine Af (A6 rfl rfl (Ae rfl rfl (Ab (Aa (A9 (Am (DE (v1:=(.slice _ _ _)) (v2:=(.int _ _)) rfl rfl rfl rfl ?_)))))))
  have h1':B7 r=false:=by rw [← hwr]; simpa using h1
  exact ⟨fun h=>(by rw [h1] at h; cases h),fun _=>⟨rfl,H.ext⟩⟩
 ·intro h1
  replace h1:=B1 h1
  have h1':B7 r=true:=by rw [← hwr]; simpa using h1
  have WW:=Ko h1'
  have hN1:=WW.N1
  have hN17:=WW.N17
  have hd64:=WW.d64
  have he200:=WW.e200
  have hle:=WW.len
  have hpo:=WW.pot
  have RI:=RA.I
  have RE:=RA.E
  have RF:=RA.F
  have RP:=RA.P
  refine Aw (Aa (Af (Dx (gwit.map bv) rfl Dq Ix Nq (by decide) (by decide) (by kernel_rfl) H ?_)))
  rintro b13 w - H
  refine RS (l:=gwit) rfl Dq JY rfl H at0 ?_
  rintro w H R13
  refine Ah rfl YE rfl (AM rfl BD rfl H at1 rfl (Al rfl T4 (P6 (some ⟨b13,0,none⟩) 4 4 gwit (u64 r.no) 8 _ R13 rfl (by decide) (F8 _)) (by rw [JC hu.no.1 hu.no.2]; rfl) ?_))
  rintro v w2 F
  rw [Aah] at F
  obtain ⟨a4,n4,c4,f4,rfl,O,hb4⟩:=F.ex
  obtain rfl:n4=(gwit++BG (u64 r.no) 8).length:=OS.num O
  replace H:Ctx w0 [] w2 ((b1,Bl 33 (AJ r q))::ent a4 5 f4):=(Ctx.callEnt H F.ext hb4 K8).tail
  refine A6 rfl rfl (Ab (Aa (Af (Ae rfl rfl (Ab (Aa (Aq (Af (Ah rfl OZ rfl (AM rfl Hh rfl H at0 rfl (Ab (Aa ?_))))))))))))
  refine Ea 32 (α:=Unit) (fun _=>[(5,bv (bif r.cmp then 1 else 0))]) (fun _ w'=>w'=w2) rfl ?_ ?_
  ·skip
   refine Ax _ rfl ?_ ?_
   ·intro h2
    refine Ap (Ae rfl rfl (Ab (Aa ?_)))
    exact ⟨(),rfl,⟨by rw [h2]; rfl,trivial⟩,rfl⟩
   ·intro h2
    refine Aw (Aa ?_)
    exact ⟨(),rfl,⟨by rw [h2]; rfl,trivial⟩,rfl⟩
  ·rintro - j5 w rfl
   refine Dl 34358689808 (α:=Option Addr × Nat × List Value) (fun z=>[(4,.slice z.1 (BC r).length z.2.1)]) (fun z w'=>Ctx w0 [] w' ((b1,Bl 33 (AJ r q))::ent z.1 5 z.2.2)∧OS z.1 (BC r).length z.2.1 1 z.2.2 ((BC r).map bv)) rfl ?_ ?_
   ·skip
    have hb1:=H.get at0
    have R4:Rd w a4 1 B8 (gwit++BG (u64 r.no) 8):=OS.rdB O fun x hx=>H.blk x (List.mem_cons_of_mem _ hx)
    refine Mq (n:=14) (N:=16) (anc:=Lx 14 [[],[],[1],[1,2],[0,1,2,3],[],[],[0,1,2,3,4,6],[0,1,2,3,4,6,7],[],[9],[9,10],[9,10,11],[0,1,2,3,4,5,6,7,8,9,10,11,12]]) (fun i=>20+i) [isV (.slice a4 (gwit++BG (u64 r.no) 8).length c4),isV (.pointer (some ⟨b1,1,none⟩)),isV (.int .i64 r.day),nbV 2 1 [.int .i64 r.day],frV w 5 1 (((gwit++BG (u64 r.no) 8)++D7 [r.day]).map bv),isV (bv (bif r.cmp then 1 else 0)),isV (.agg (AJ r q).toArray),isV (.int .i64 (r.N - 1)),isV (bv (by8 (r.N - 1))),isV (.pointer (some ⟨b1,3,none⟩)),isV (.slice q.aI r.ids.length q.cI),isV (.int .i64 (r.ids.length:Int)),isV (bv (by8 r.ids.length)),nbV 5 3 [bv (bif r.cmp then 1 else 0),bv (by8 (r.N - 1)),bv (by8 r.ids.length)]] (show Tryz.prog.follows .mixedOrders=true by kernel_rfl) rfl (by decide) (by kernel_rfl) (El _) (fun i j _ _ h=>by have h:20+i=20+j:=h; omega) ⟨CL _,CL _,CL _,Mp _ _ _,Mo _ _ _ _,CL _,CL _,CL _,CL _,CL _,CL _,CL _,CL _,Mp _ _ _,trivial⟩ ?_ ?_
    ·intro m o e' w' hm ho hold hg hx
     have hin:∀ t:Nat,t<20→∀ j,j<14→t≠20+j:=fun t ht j hj=>by omega
     have hx0:Ext [] w w':=(Ext.drew [] w).trans hx
     have g1:e'.g 1=ptr b1:=(hold 1 (hin 1 (by decide))).trans rfl
     have g4:e'.g 4 = .slice a4 (gwit++BG (u64 r.no) 8).length c4:=(hold 4 (hin 4 (by decide))).trans rfl
     have hc1:w'.heap[b1]? = some (Bl 33 (AJ r q)):=hx0.to hb1 (by simp)
     have g5:e'.g 5=bv (bif r.cmp then 1 else 0):=(hold 5 (hin 5 (by decide))).trans rfl
     have hcs:m=0∨m=1∨m=2∨m=3∨m=4∨m=5∨m=6∨m=7∨m=8∨m=9∨m=10∨m=11∨m=12∨m=13:=by omega
     rcases hcs with rfl | rfl | rfl | rfl | rfl | rfl | rfl | rfl | rfl | rfl | rfl | rfl | rfl | rfl
     ·cases Option.some.inj ho
      exact BO rfl _ g4 (Ab ⟨_,.refl _ _,rfl,rfl⟩)
     ·cases Option.some.inj ho
      exact Ah (off:=1) rfl (by kernel_rfl) g1 (Ab ⟨_,.refl _ _,rfl,rfl⟩)
     ·cases Option.some.inj ho
      exact AY rfl B9 (hg 1 (by decide)) (by rw [An hc1]; rfl) (Ab ⟨_,.refl _ _,rfl,rfl⟩)
     ·cases Option.some.inj ho
      refine Dx [.int .i64 r.day] rfl AX Bw FX (by decide) (by decide) ?_ (Ctx.start w' []) ?_
      ·show Instr.fill _ _ [(0,e'.g 22)]=_
       rw [show e'.g 22 = .int .i64 r.day from (hg 2 (by decide))]
       kernel_rfl
      ·intro b w2 _ H
       exact Ab ⟨_,H.ext,rfl,b,rfl,H.get at0⟩
     ·cases Option.some.inj ho
      obtain ⟨b3,h3,hb3⟩:=hg 3 (by decide)
      refine Al rfl NI (Jh a4 (some ⟨b3,0,none⟩) c4 1 _ (gwit++BG (u64 r.no) 8) [r.day] _ (R4.ext0 hx0) rfl (by simp [gwit,Dh]) (P8 hb3) 1 rfl (by decide) (by decide)) ?_ ?_
      ·show [e'.g 20,e'.g 23]=_
       rw [show e'.g 20 = .slice a4 (gwit++BG (u64 r.no) 8).length c4 from hg 0 (by decide),show e'.g 23 = .slice (some ⟨b3,0,none⟩) 1 1 from h3]
      ·intro v w2 F
       exact Ab ⟨_,F.ext,rfl,Fresh.since F hx0⟩
     ·cases Option.some.inj ho
      exact BO rfl _ g5 (Ab ⟨_,.refl _ _,rfl,rfl⟩)
     ·cases Option.some.inj ho
      exact Cx (AJ r q) rfl C6 Cp g1 rfl (C8 (b:=b1) (t:=33) (l:=AJ r q) hc1 0 (AJ r q) rfl) (Ab ⟨_,.refl _ _,rfl,rfl⟩)
     ·cases Option.some.inj ho
      refine Al rfl Ie (Ga r q _ (by omega)) ?_ ?_
      ·show [e'.g 26]=_
       rw [show e'.g 26 = .agg (AJ r q).toArray from hg 6 (by decide)]
      ·rintro v w2 ⟨rfl,h2⟩
       exact Ab ⟨_,h2,rfl,rfl⟩
     ·cases Option.some.inj ho
      exact Gp rfl (hg 7 (by decide)) GW JY (Ab ⟨_,.refl _ _,rfl,LI _⟩)
     ·cases Option.some.inj ho
      exact Ah (off:=3) rfl (by kernel_rfl) g1 (Ab ⟨_,.refl _ _,rfl,rfl⟩)
     ·cases Option.some.inj ho
      exact AY rfl Fy (hg 9 (by decide)) (by rw [An hc1]; rfl) (Ab ⟨_,.refl _ _,rfl,rfl⟩)
     ·cases Option.some.inj ho
      exact Be rfl Bd (hg 10 (by decide)) (Ab ⟨_,.refl _ _,rfl,rfl⟩)
     ·cases Option.some.inj ho
      exact Gp rfl (hg 11 (by decide)) GW JY (Ab ⟨_,.refl _ _,rfl,LI _⟩)
     ·cases Option.some.inj ho
      refine Dx [bv (bif r.cmp then 1 else 0),bv (by8 (r.N - 1)),bv (by8 r.ids.length)] rfl Dq Ix Nq (by decide) (by decide) ?_ (Ctx.start w' []) ?_
      ·show Instr.fill _ _ [(0,e'.g 25),(1,e'.g 28),(2,e'.g 32)]=_
       rw [show e'.g 25=bv (bif r.cmp then 1 else 0) from (hg 5 (by decide)),show e'.g 28=bv (by8 (r.N - 1)) from (hg 8 (by decide)),show e'.g 32=bv (by8 r.ids.length) from (hg 12 (by decide))]
       kernel_rfl
      ·intro b w2 _ H
       exact Ab ⟨_,H.ext,rfl,b,rfl,H.get at0⟩
    ·intro e' w' hds hold hg hx
     have hx0:Ext [] w w':=(Ext.drew [] w).trans hx
     obtain ⟨b3,h3,hb3⟩:=hg 13 (by decide)
     have F:Fresh w w' 5 1 (e'.g 24) (((gwit++BG (u64 r.no) 8)++D7 [r.day]).map bv):=hg 4 (by decide)
     obtain ⟨a,n,c,full,h4,O4,hb4'⟩:=F.ex
     obtain rfl:=OS.num O4
     have H5:Ctx w0 [] w' ([(b1,Bl 33 (AJ r q))]++ent a 5 full):=Ji (L:=[(b1,Bl 33 (AJ r q))]) H F.ext hb4'
     refine E4 rfl Dq Dq Ix Wb Nq rfl (by decide) ([(bif r.cmp then 1 else 0),by8 (r.N - 1),by8 r.ids.length].map bv) h4 h3 H5 O4 rfl (one3 _) (fun j v hv=>⟨_,rfl,by rw [Cu,Nat.zero_add,An hb3]; exact hv⟩) (by simp [gwit,Dh,Ft]) fun a' c' full' w3 H6 O6=>?_
     refine BN rfl _ (Dp _ _ _) (Ab ?_)
     rw [← List.map_append] at O6
     have hlen:((gwit++BG (u64 r.no) 8++D7 [r.day]).length+3)=(BC r).length:=by rw [G7]; simp only [BC,List.length_append,List.length_cons,List.length_nil]
     have hB:gwit++BG (u64 r.no) 8++D7 [r.day]++[(bif r.cmp then 1 else 0),by8 (r.N - 1),by8 r.ids.length]=BC r:=by rw [G7]; rfl
     rw [hlen] at O6 ⊢
     rw [hB] at O6
     exact ⟨(a',c',full'),hds,⟨Dp _ _ _,trivial⟩,H6,O6⟩
   ·rintro ⟨a4,c4,f4⟩ j7 w ⟨H,O⟩; dsimp only at H O; dsimp only
    refine Aq (Af (Ah rfl Fo rfl (Ah rfl CR rfl (AM rfl Ec rfl H at0 rfl (Be rfl C9 rfl (Ad rfl rfl (Ab (Aa (Av (Bm 2535301200456458802443650597328 (α:=Nat × Option Addr × Nat × List Value) (fun z=>[(39,.int .i64 (z.1:Int)),(4,.slice z.2.1 (BC r++esB r z.1).length z.2.2.1)]) (fun z w'=>z.1≤r.es.length∧Ctx w0 [] w' ((b1,Bl 33 (AJ r q))::ent z.2.1 5 z.2.2.2)∧OS z.2.1 (BC r++esB r z.1).length z.2.2.1 1 z.2.2.2 ((BC r++esB r z.1).map bv)) (fun z=>r.es.length - z.1) (0,a4,c4,f4) rfl ?_ ?_ ?_))))))))))
    ·exact ⟨rfl,by rw [esB0,List.append_nil]; rfl,trivial⟩
    ·exact ⟨Nat.zero_le _,H,by dsimp only; rw [esB0,List.append_nil]; exact O⟩
    ·clear H O
     rintro ⟨i,a4,c4,f4⟩ j w ⟨hi,H,O⟩; dsimp only at hi H O; dsimp only
     refine Af (AV rfl rfl rfl (Ab (Aa (Aq (Ax _ rfl ?_ ?_)))))
     ·intro h2
      replace h2:=AE h2
      obtain ⟨e,he⟩:=A4 (l:=r.es) (i:=i) (by omega)
      obtain ⟨x,hxx⟩:=A4 (l:=r.fl) (i:=i) (by omega)
      have hst:=IF he hxx
      have hbs:(BC r++esB r i).length≤6000:=by have:=P7 r i; rw [List.length_append,Gl]; omega
      have hed:=Dj ((BX (BA WW.wi).2.1).2.2.2.1 e (List.mem_of_getElem? he))
      refine Aw (Aa (Aq (Av (Af (Ad rfl rfl (Ba RE rfl C9 Ci rfl rfl (by omega) (by omega) (by rfl) ?_))))))
      refine Cx _ rfl EW Ci rfl rfl (((RE.ext0 H.ext).row he rfl)) ?_
      refine Bo rfl Es H ?_
      rintro b7 w - H
      refine Ae rfl rfl (BP rfl Ci rfl rfl rfl (by exact DQ _) H at0 rfl ?_)
      rintro w H
      refine Ab (Aa (Af (Ah rfl LB rfl (Ah rfl L9 rfl (AM rfl BT rfl H at1 rfl (Ad rfl rfl (Ba RF rfl AX Bw rfl rfl (by omega) (by omega) (by rfl) ?_)))))))
      refine AY rfl B9 rfl (((RF.ext0 H.ext).fld hxx rfl (j:=0) rfl)) ?_
      refine Ae rfl rfl (Ab (Aa (Av (Af (Ad rfl rfl (Ah rfl EK rfl (AM rfl Fy rfl H at1 rfl (Be rfl Bd rfl (AV rfl rfl rfl (Ai rfl rfl ?_))))))))))
      refine Ab (Aa (Ax _ rfl ?_ ?_))
      ·intro h3
       replace h3:=AE h3
       obtain ⟨id,hid0⟩:=A4 (l:=r.ids) (i:=i) (by omega)
       have hid:=hu.ids id (List.mem_of_getElem? hid0)
       have hde:=Pz (WW.due i e (by omega) he)
       refine Dl 37777778941452554862608 (α:=Option Addr × Nat × List Value) (fun z=>[(4,.slice z.1 (BC r++esB r i++BG (u64 id) 8++[by8 e.f,by8 e.t]).length z.2.1)]) (fun z w'=>Ctx w0 [] w' ((b7,Bl 92 (B6 e))::(b1,Bl 33 (AJ r q))::ent z.1 5 z.2.2)∧OS z.1 (BC r++esB r i++BG (u64 id) 8++[by8 e.f,by8 e.t]).length z.2.1 1 z.2.2 ((BC r++esB r i++BG (u64 id) 8++[by8 e.f,by8 e.t]).map bv)) rfl ?_ ?_
       ·skip
        have hb1:=H.get at1
        have hb7:=H.get at0
        have R4:Rd w a4 1 B8 (BC r++esB r i):=OS.rdB O fun x hx=>H.blk x (List.mem_cons_of_mem _ (List.mem_cons_of_mem _ hx))
        refine Mq (n:=14) (N:=16) (anc:=Lx 14 [[],[],[1],[],[1,2,3],[1,2,3,4],[0,1,2,3,4,5],[],[7],[7,8],[],[10],[10,11],[7,8,9,10,11,12]]) (fun i=>60+i) [isV (.slice a4 (BC r++esB r i).length c4),isV (.pointer (some ⟨b1,3,none⟩)),isV (.slice q.aI r.ids.length q.cI),isV (.int .i64 (i:Int)),isV (.pointer (some ⟨(adr q.aI).block,(adr q.aI).off+i*1,none⟩)),isV (EP id),frV w 5 1 (((BC r++esB r i)++BG (u64 id) 8).map bv),isV (.pointer (some ⟨b7,0,none⟩)),isV (.int .i64 e.f),isV (bv (by8 e.f)),isV (.pointer (some ⟨b7,1,none⟩)),isV (.int .i64 e.t),isV (bv (by8 e.t)),nbV 5 2 [bv (by8 e.f),bv (by8 e.t)]] (show Tryz.prog.follows .mixedOrders=true by kernel_rfl) rfl (by decide) (by kernel_rfl) (El _) (fun i j _ _ h=>by have h:60+i=60+j:=h; omega) ⟨CL _,CL _,CL _,CL _,CL _,CL _,Mo _ _ _ _,CL _,CL _,CL _,CL _,CL _,CL _,Mp _ _ _,trivial⟩ ?_ ?_
        ·intro m o e' w' hm ho hold hg hx
         have hin:∀ t:Nat,t<60→∀ j,j<14→t≠60+j:=fun t ht j hj=>by omega
         have hx0:Ext [] w w':=(Ext.drew [] w).trans hx
         have g1:e'.g 1=ptr b1:=(hold 1 (hin 1 (by decide))).trans rfl
         have g4:e'.g 4 = .slice a4 (BC r++esB r i).length c4:=(hold 4 (hin 4 (by decide))).trans rfl
         have hc1:w'.heap[b1]? = some (Bl 33 (AJ r q)):=hx0.to hb1 (by simp)
         have g6:e'.g 6 = .int .i64 (i:Int):=(hold 6 (hin 6 (by decide))).trans rfl
         have g7:e'.g 7=ptr b7:=(hold 7 (hin 7 (by decide))).trans rfl
         have hc7:w'.heap[b7]? = some (Bl 92 (B6 e)):=hx0.to hb7 (by simp)
         have hcs:m=0∨m=1∨m=2∨m=3∨m=4∨m=5∨m=6∨m=7∨m=8∨m=9∨m=10∨m=11∨m=12∨m=13:=by omega
         rcases hcs with rfl | rfl | rfl | rfl | rfl | rfl | rfl | rfl | rfl | rfl | rfl | rfl | rfl | rfl
         ·cases Option.some.inj ho
          exact BO rfl _ g4 (Ab ⟨_,.refl _ _,rfl,rfl⟩)
         ·cases Option.some.inj ho
          exact Ah (off:=3) rfl (by kernel_rfl) g1 (Ab ⟨_,.refl _ _,rfl,rfl⟩)
         ·cases Option.some.inj ho
          exact AY rfl Fy (hg 1 (by decide)) (by rw [An hc1]; rfl) (Ab ⟨_,.refl _ _,rfl,rfl⟩)
         ·cases Option.some.inj ho
          exact BO rfl _ g6 (Ab ⟨_,.refl _ _,rfl,rfl⟩)
         ·cases Option.some.inj ho
          exact Ba RI rfl Bd AZ (hg 2 (by decide)) (hg 3 (by decide)) (by omega) (by omega) rfl (Ab ⟨_,.refl _ _,rfl,rfl⟩)
         ·cases Option.some.inj ho
          exact AY rfl BD (hg 4 (by decide)) ((RI.ext0 (H.ext.trans hx0)).fld hid0 rfl (j:=0) rfl) (Ab ⟨_,.refl _ _,rfl,rfl⟩)
         ·cases Option.some.inj ho
          refine Al rfl T4 (P6 a4 c4 _ (BC r++esB r i) (u64 id) 8 _ (R4.ext0 hx0) rfl (by omega) (F8 _)) ?_ ?_
          ·show [e'.g 60,e'.g 65,.int .i64 8]=_
           rw [show e'.g 60 = .slice a4 (BC r++esB r i).length c4 from hg 0 (by decide),show e'.g 65=EP id from hg 5 (by decide),JC hid.1 hid.2]
           rfl
          ·intro v w2 F
           exact Ab ⟨_,F.ext,rfl,Fresh.since F hx0⟩
         ·cases Option.some.inj ho
          exact Ah (off:=0) rfl (by kernel_rfl) g7 (Ab ⟨_,.refl _ _,rfl,rfl⟩)
         ·cases Option.some.inj ho
          exact AY rfl BS (hg 7 (by decide)) (by rw [An hc7]; rfl) (Ab ⟨_,.refl _ _,rfl,rfl⟩)
         ·cases Option.some.inj ho
          exact Gp rfl (hg 8 (by decide)) GW JY (Ab ⟨_,.refl _ _,rfl,LI _⟩)
         ·cases Option.some.inj ho
          exact Ah (off:=1) rfl (by kernel_rfl) g7 (Ab ⟨_,.refl _ _,rfl,rfl⟩)
         ·cases Option.some.inj ho
          exact AY rfl BS (hg 10 (by decide)) (by rw [An hc7]; rfl) (Ab ⟨_,.refl _ _,rfl,rfl⟩)
         ·cases Option.some.inj ho
          exact Gp rfl (hg 11 (by decide)) GW JY (Ab ⟨_,.refl _ _,rfl,LI _⟩)
         ·cases Option.some.inj ho
          refine Dx [bv (by8 e.f),bv (by8 e.t)] rfl Dq Ix Nq (by decide) (by decide) ?_ (Ctx.start w' []) ?_
          ·show Instr.fill _ _ [(0,e'.g 69),(1,e'.g 72)]=_
           rw [show e'.g 69=bv (by8 e.f) from (hg 9 (by decide)),show e'.g 72=bv (by8 e.t) from (hg 12 (by decide))]
           kernel_rfl
          ·intro b w2 _ H
           exact Ab ⟨_,H.ext,rfl,b,rfl,H.get at0⟩
        ·intro e' w' hds hold hg hx
         have hx0:Ext [] w w':=(Ext.drew [] w).trans hx
         obtain ⟨b3,h3,hb3⟩:=hg 13 (by decide)
         have F:Fresh w w' 5 1 (e'.g 66) (((BC r++esB r i)++BG (u64 id) 8).map bv):=hg 6 (by decide)
         obtain ⟨a,n,c,full,h4,O4,hb4'⟩:=F.ex
         obtain rfl:=OS.num O4
         have H5:Ctx w0 [] w' ([(b7,Bl 92 (B6 e)),(b1,Bl 33 (AJ r q))]++ent a 5 full):=Ji (L:=[(b7,Bl 92 (B6 e)),(b1,Bl 33 (AJ r q))]) H F.ext hb4'
         refine E4 rfl Dq Dq Ix Wb Nq rfl (by decide) ([by8 e.f,by8 e.t].map bv) h4 h3 H5 O4 rfl (one3 _) (fun j v hv=>⟨_,rfl,by rw [Cu,Nat.zero_add,An hb3]; exact hv⟩) (by rw [List.length_append,Dh]; omega) fun a' c' full' w3 H6 O6=>?_
         refine BN rfl _ (Dp _ _ _) (Ab ?_)
         rw [← List.map_append] at O6
         have hlen:((BC r++esB r i)++BG (u64 id) 8).length+2=(BC r++esB r i++BG (u64 id) 8++[by8 e.f,by8 e.t]).length:=by simp only [List.length_append,List.length_cons,List.length_nil]
         rw [hlen] at O6 ⊢
         exact ⟨(a',c',full'),hds,⟨Dp _ _ _,trivial⟩,H6,O6⟩
       ·rintro ⟨a4,c4,f4⟩ j14 w ⟨H,O⟩; dsimp only at H O; dsimp only
        have hb2:(BC r++esB r i++BG (u64 id) 8++[by8 e.f,by8 e.t]).length≤6010:=by simp only [List.length_append,Dh,List.length_cons,List.length_nil] at hbs ⊢; omega
        have hfin:(BC r++esB r i++BG (u64 id) 8++[by8 e.f,by8 e.t])++D7 [e.cap]++BG (u64 (-e.cost)) 2++D7 [x]=BC r++esB r (i+1):=by
         rw [hst]
         unfold eB
         rw [if_pos (by omega),AU hid0,G7,G7]
         simp only [List.append_assoc]
        refine OR 309447230889482111563071504 (α:=Option Addr × Nat × List Value) (fun z=>[(4,.slice z.1 (BC r++esB r (i+1)).length z.2.1)]) (fun z w'=>Ctx w0 [] w' ((b7,Bl 92 (B6 e))::(b1,Bl 33 (AJ r q))::ent z.1 5 z.2.2)∧OS z.1 (BC r++esB r (i+1)).length z.2.1 1 z.2.2 ((BC r++esB r (i+1)).map bv)) rfl ?_ ?_
        ·skip
         have hb7:=H.get at0
         have R4:Rd w a4 1 B8 (BC r++esB r i++BG (u64 id) 8++[by8 e.f,by8 e.t]):=OS.rdB O fun x hx=>H.blk x (List.mem_cons_of_mem _ (List.mem_cons_of_mem _ hx))
         refine Mq (n:=13) (N:=14) (anc:=Lx 13 [[],[],[1],[1,2],[0,1,2,3],[],[5],[5,6],[5,6,7],[0,1,2,3,4,5,6,7,8],[],[10],[0,1,2,3,4,5,6,7,8,9,10,11]]) (fun i=>75+i) [isV (.slice a4 ((BC r++esB r i)++BG (u64 id) 8++[by8 e.f,by8 e.t]).length c4),isV (.pointer (some ⟨b7,2,none⟩)),isV (.int .i64 e.cap),nbV 2 1 [.int .i64 e.cap],frV w 5 1 ((((BC r++esB r i)++BG (u64 id) 8++[by8 e.f,by8 e.t])++D7 [e.cap]).map bv),isV (.pointer (some ⟨b7,3,none⟩)),isV (.int .i64 e.cost),isV (.int .i64 (-e.cost)),isV (.int .u64 ((u64 (-e.cost):Nat):Int)),frV w 5 1 ((((BC r++esB r i)++BG (u64 id) 8++[by8 e.f,by8 e.t])++D7 [e.cap]++BG (u64 (-e.cost)) 2).map bv),isV (.int .i64 x),nbV 2 1 [.int .i64 x],frV w 5 1 ((((BC r++esB r i)++BG (u64 id) 8++[by8 e.f,by8 e.t])++D7 [e.cap]++BG (u64 (-e.cost)) 2++D7 [x]).map bv)] (show Tryz.prog.follows .mixedOrders=true by kernel_rfl) rfl (by decide) (by kernel_rfl) (El _) (fun i j _ _ h=>by have h:75+i=75+j:=h; omega) ⟨CL _,CL _,CL _,Mp _ _ _,Mo _ _ _ _,CL _,CL _,CL _,CL _,Mo _ _ _ _,CL _,Mp _ _ _,Mo _ _ _ _,trivial⟩ ?_ ?_
         ·intro m o e' w' hm ho hold hg hx
          have hin:∀ t:Nat,t<75→∀ j,j<13→t≠75+j:=fun t ht j hj=>by omega
          have hx0:Ext [] w w':=(Ext.drew [] w).trans hx
          have g4:e'.g 4 = .slice a4 ((BC r++esB r i)++BG (u64 id) 8++[by8 e.f,by8 e.t]).length c4:=(hold 4 (hin 4 (by decide))).trans rfl
          have g7:e'.g 7=ptr b7:=(hold 7 (hin 7 (by decide))).trans rfl
          have g8:e'.g 8 = .int .i64 x:=(hold 8 (hin 8 (by decide))).trans rfl
          have hc7:w'.heap[b7]? = some (Bl 92 (B6 e)):=hx0.to hb7 (by simp)
          have hcs:m=0∨m=1∨m=2∨m=3∨m=4∨m=5∨m=6∨m=7∨m=8∨m=9∨m=10∨m=11∨m=12:=by omega
          rcases hcs with rfl | rfl | rfl | rfl | rfl | rfl | rfl | rfl | rfl | rfl | rfl | rfl | rfl
          ·cases Option.some.inj ho
           exact BO rfl _ g4 (Ab ⟨_,.refl _ _,rfl,rfl⟩)
          ·cases Option.some.inj ho
           exact Ah (off:=2) rfl (by kernel_rfl) g7 (Ab ⟨_,.refl _ _,rfl,rfl⟩)
          ·cases Option.some.inj ho
           exact AY rfl B9 (hg 1 (by decide)) (by rw [An hc7]; rfl) (Ab ⟨_,.refl _ _,rfl,rfl⟩)
          ·cases Option.some.inj ho
           refine Dx [.int .i64 e.cap] rfl AX Bw FX (by decide) (by decide) ?_ (Ctx.start w' []) ?_
           ·show Instr.fill _ _ [(0,e'.g 77)]=_
            rw [show e'.g 77 = .int .i64 e.cap from (hg 2 (by decide))]
            kernel_rfl
           ·intro b w2 _ H
            exact Ab ⟨_,H.ext,rfl,b,rfl,H.get at0⟩
          ·cases Option.some.inj ho
           obtain ⟨b3,h3,hb3⟩:=hg 3 (by decide)
           refine Al rfl NI (Jh a4 (some ⟨b3,0,none⟩) c4 1 _ ((BC r++esB r i)++BG (u64 id) 8++[by8 e.f,by8 e.t]) [e.cap] _ (R4.ext0 hx0) rfl (by omega) (P8 hb3) 1 rfl (by decide) (by decide)) ?_ ?_
           ·show [e'.g 75,e'.g 78]=_
            rw [show e'.g 75 = .slice a4 ((BC r++esB r i)++BG (u64 id) 8++[by8 e.f,by8 e.t]).length c4 from hg 0 (by decide),show e'.g 78 = .slice (some ⟨b3,0,none⟩) 1 1 from h3]
           ·intro v w2 F
            exact Ab ⟨_,F.ext,rfl,Fresh.since F hx0⟩
          ·cases Option.some.inj ho
           exact Ah (off:=3) rfl (by kernel_rfl) g7 (Ab ⟨_,.refl _ _,rfl,rfl⟩)
          ·cases Option.some.inj ho
           exact AY rfl B9 (hg 5 (by decide)) (by rw [An hc7]; rfl) (Ab ⟨_,.refl _ _,rfl,rfl⟩)
          ·cases Option.some.inj ho
           exact F5 rfl (hg 6 (by decide)) (by omega) (by omega) (Ab ⟨_,.refl _ _,rfl,rfl⟩)
          ·cases Option.some.inj ho
           exact Gp rfl (hg 7 (by decide)) Sn FM (Ab ⟨_,.refl _ _,rfl,congrArg (Value.int .u64) (QX _)⟩)
          ·cases Option.some.inj ho
           have F4:Fresh w w' 5 1 (e'.g 79) ((((BC r++esB r i)++BG (u64 id) 8++[by8 e.f,by8 e.t])++D7 [e.cap]).map bv):=hg 4 (by decide)
           obtain ⟨a9,c9,h9,R9,-⟩:=Fresh.rdB F4
           refine Al rfl T4 (P6 a9 c9 _ (((BC r++esB r i)++BG (u64 id) 8++[by8 e.f,by8 e.t])++D7 [e.cap]) (u64 (-e.cost)) 2 _ R9 rfl (by rw [List.length_append,Ft,List.length_singleton]; omega) (F8 _)) ?_ ?_
           ·show [e'.g 79,e'.g 83,.int .i64 2]=_
            rw [h9,show e'.g 83 = .int .u64 ((u64 (-e.cost):Nat):Int) from hg 8 (by decide)]
           ·intro v w2 F
            exact Ab ⟨_,F.ext,rfl,Fresh.since F hx0⟩
          ·cases Option.some.inj ho
           exact BO rfl _ g8 (Ab ⟨_,.refl _ _,rfl,rfl⟩)
          ·cases Option.some.inj ho
           refine Dx [.int .i64 x] rfl AX Bw FX (by decide) (by decide) ?_ (Ctx.start w' []) ?_
           ·show Instr.fill _ _ [(0,e'.g 85)]=_
            rw [show e'.g 85 = .int .i64 x from (hg 10 (by decide))]
            kernel_rfl
           ·intro b w2 _ H
            exact Ab ⟨_,H.ext,rfl,b,rfl,H.get at0⟩
          ·cases Option.some.inj ho
           have F9:Fresh w w' 5 1 (e'.g 84) ((((BC r++esB r i)++BG (u64 id) 8++[by8 e.f,by8 e.t])++D7 [e.cap]++BG (u64 (-e.cost)) 2).map bv):=hg 9 (by decide)
           obtain ⟨a9,c9,h9,R9,-⟩:=Fresh.rdB F9
           obtain ⟨b3,h3,hb3⟩:=hg 11 (by decide)
           refine Al rfl NI (Jh a9 (some ⟨b3,0,none⟩) c9 1 _ (((BC r++esB r i)++BG (u64 id) 8++[by8 e.f,by8 e.t])++D7 [e.cap]++BG (u64 (-e.cost)) 2) [x] _ R9 rfl (by rw [List.length_append,Dh,List.length_append,Ft,List.length_singleton]; omega) (P8 hb3) 1 rfl (by decide) (by decide)) ?_ ?_
           ·show [e'.g 84,e'.g 86]=_
            rw [h9,show e'.g 86 = .slice (some ⟨b3,0,none⟩) 1 1 from h3]
           ·intro v w2 F
            exact Ab ⟨_,F.ext,rfl,Fresh.since F hx0⟩
         ·intro e' w' hds hold hg hx
          have F:Fresh w w' 5 1 (e'.g 87) (((BC r++esB r i++BG (u64 id) 8++[by8 e.f,by8 e.t])++D7 [e.cap]++BG (u64 (-e.cost)) 2++D7 [x]).map bv):=hg 12 (by decide)
          rw [hfin] at F
          obtain ⟨a,n,c,full,h4,O4,hb4'⟩:=F.ex
          obtain rfl:=OS.num O4
          have H5:Ctx w0 [] w' ([(b7,Bl 92 (B6 e)),(b1,Bl 33 (AJ r q))]++ent a 5 full):=Ji (L:=[(b7,Bl 92 (B6 e)),(b1,Bl 33 (AJ r q))]) H F.ext hb4'
          refine BN rfl _ h4 (Ab ?_)
          exact ⟨rfl,(a,c,full),hds,⟨Dp _ _ _,trivial⟩,H5,O4⟩
        ·rintro ⟨a4,c4,f4⟩ j15 w ⟨H,O⟩; dsimp only at H O; dsimp only
         refine A2 (A2 (Aa (Ap (Ao rfl rfl rfl (by omega) (by omega) ?_))))
         refine Ad rfl rfl (Ab (Aa ?_))
         exact ⟨(i+1,a4,c4,f4),rfl,⟨rfl,rfl,trivial⟩,⟨by omega,H.tail,O⟩,by dsimp only; omega⟩
      ·intro h3
       replace h3:=AF h3
       have hb1:=H.get at1
       have hb7:=H.get at0
       have HG:=H
       obtain ⟨w1,rfl⟩:∃ z,z=w:=⟨_,rfl⟩
       clear H
       have H:=Ctx.start w1 []
       refine CH [([0,1,2],3),([4],5)] (fun z=>Ext [] w1 z) [] Bz (by kernel_rfl) (Ext.drew [] w1) ?_
       refine AO rfl rfl ?_
       refine AL rfl DL rfl (BQ rfl BS rfl (fun _ hx=>(by rw [An (hx.to hb7 (by simp))]; rfl)) ?_)
       refine Fx _ rfl C6 Cp rfl rfl (fun _ hx=>(C8 (b:=b1) (t:=33) (l:=AJ r q) (hx.to hb1 (by simp)) 0 (AJ r q) rfl)) ?_
       refine Bx ?_
       replace H:=H.drew
       refine Al rfl Ie (Ga r q _ (by omega)) rfl ?_
       rintro v w ⟨rfl,hx92⟩
       replace H:=H.call hx92
       refine Ab (C2 (H.ext) (AO rfl rfl ?_))
       refine VI rfl rfl rfl (Bx (Ai rfl rfl (Ab (C2 (H.ext) (BL (Ax _ rfl ?_ ?_))))))
       ·intro h4
        replace h4:=AE h4
        replace H:=HG.call H.ext
        have R4:=OS.rdB O fun x hx=>H.blk x (List.mem_cons_of_mem _ (List.mem_cons_of_mem _ hx))
        refine Ap (Ak rfl rfl (Ah rfl D4 rfl (AM rfl B9 rfl H at0 rfl (Ad rfl rfl ?_))))
        have H0:=H
        replace H:=Ctx.start w []
        refine Dx [.int .i64 e.cap,.int .i64 x] rfl AX Bw FX (by decide) (by decide) (by kernel_rfl) H ?_
        rintro b98 w2 - H
        have hb98:=H.get at0
        replace H:=H0.call H.ext
        refine Al rfl NI (Jh a4 (some ⟨b98,0,none⟩) c4 2 _ (BC r++esB r i) [e.cap,x] _ (OS.rdB O fun x hx=>H.blk x (List.mem_cons_of_mem _ (List.mem_cons_of_mem _ hx))) rfl (by omega) (XM hb98) 2 rfl (by decide) (by decide)) rfl ?_
        rintro v w3 F
        have hE:(BC r++esB r i)++D7 [e.cap,x]=BC r++esB r (i+1):=by { rw [hst]; unfold eB; rw [if_neg (by omega),if_pos h4,KT,G7,List.append_assoc] }
        rw [hE] at F
        obtain ⟨a9,n9,c9,f9,rfl,O9,hb9⟩:=F.ex
        obtain rfl:=OS.num O9
        replace H:Ctx w0 [] w3 ([(b7,Bl 92 (B6 e)),(b1,Bl 33 (AJ r q))]++ent a9 5 f9):=Ji (L:=[(b7,Bl 92 (B6 e)),(b1,Bl 33 (AJ r q))]) H F.ext hb9
        refine A6 rfl rfl (Ab (A2 (A2 (Aa (Ap (Ao rfl rfl rfl (by omega) (by omega) ?_))))))
        refine Ad rfl rfl (Ab (Aa ?_))
        exact ⟨(i+1,a9,c9,f9),rfl,⟨rfl,rfl,trivial⟩,⟨by omega,H.tail,O9⟩,by dsimp only; omega⟩
       ·intro h4
        replace h4:=AF h4
        replace H:=HG.call H.ext
        refine Ap (Ak rfl rfl (Ad rfl rfl ?_))
        have H0:=H
        replace H:=Ctx.start w []
        refine Dx [.int .i64 x] rfl AX Bw FX (by decide) (by decide) (by kernel_rfl) H ?_
        rintro b52 w2 - H
        have hb52:=H.get at0
        replace H:=H0.call H.ext
        refine Al rfl NI (Jh a4 (some ⟨b52,0,none⟩) c4 1 _ (BC r++esB r i) [x] _ (OS.rdB O fun x hx=>H.blk x (List.mem_cons_of_mem _ (List.mem_cons_of_mem _ hx))) rfl (by omega) (P8 hb52) 1 rfl (by decide) (by decide)) rfl ?_
        rintro v w3 F
        have hE:(BC r++esB r i)++D7 [x]=BC r++esB r (i+1):=by { rw [hst]; unfold eB; rw [if_neg (by omega),if_neg h4,G7,List.append_assoc] }
        rw [hE] at F
        obtain ⟨a9,n9,c9,f9,rfl,O9,hb9⟩:=F.ex
        obtain rfl:=OS.num O9
        replace H:Ctx w0 [] w3 ([(b7,Bl 92 (B6 e)),(b1,Bl 33 (AJ r q))]++ent a9 5 f9):=Ji (L:=[(b7,Bl 92 (B6 e)),(b1,Bl 33 (AJ r q))]) H F.ext hb9
        refine A6 rfl rfl (Ab (A2 (A2 (Aa (Ap (Ao rfl rfl rfl (by omega) (by omega) ?_))))))
        refine Ad rfl rfl (Ab (Aa ?_))
        exact ⟨(i+1,a9,c9,f9),rfl,⟨rfl,rfl,trivial⟩,⟨by omega,H.tail,O9⟩,by dsimp only; omega⟩
     ·intro h2
      replace h2:=AF h2
      obtain rfl:i=r.es.length:=by omega
      have hbs:(BC r++esB r r.es.length).length≤6000:=by have:=P7 r r.es.length; rw [List.length_append,Gl]; omega
      have hpl:0<r.pot.length:=by omega
      have hbl:(G8 r).length≤6200:=by unfold G8; rw [List.length_append,Ft]; omega
      have hnat:UInt32.size=4294967296:=rfl
      refine Bh (Aj (Aj (AB (Aa (Af (Ak rfl rfl (Ah rfl LB rfl (Ah rfl LA rfl (AM rfl BT rfl H at0 rfl (Al rfl NI (Jh a4 q.aP c4 q.cP _ (BC r++esB r r.es.length) r.pot _ (OS.rdB O fun x hx=>H.blk x (List.mem_cons_of_mem _ hx)) rfl (by omega) (RP.ext0 H.ext) _ rfl (by omega) hpl) rfl ?_))))))))))
      rintro v w3 F
      rw [show BC r++esB r r.es.length++D7 r.pot=G8 r from rfl] at F
      obtain ⟨a4,n4,c4,f4,rfl,O,hb4⟩:=F.ex
      obtain rfl:=OS.num O
      replace H:Ctx w0 [] w3 ([(b1,Bl 33 (AJ r q))]++ent a4 5 f4):=Ji (L:=[(b1,Bl 33 (AJ r q))]) H F.ext hb4
      refine A6 rfl rfl (Ab (Aa (Af (Ak rfl rfl (Al rfl ZR (XI a4 c4 _ (G8 r) _ (OS.rdB O fun x hx=>H.blk x (List.mem_cons_of_mem _ hx)) rfl (by omega)) rfl ?_)))))
      rintro v w ⟨rfl,rfl⟩
      refine Ae rfl rfl (Ab (Aa (Aq (Af (Ad rfl rfl (Ab (Aa (Av ?_))))))))
      obtain ⟨s,hs⟩:∃ s,s=(SR (G8 r)).toNat:=⟨_,rfl⟩
      have hs32:s<4294967296:=by rw [hs]; exact Kp _
      rw [← hs]
      refine Bm 331982480392570541499168609049510416 (α:=Nat × Option Addr × Nat × List Value) (fun z=>[(108,.int .i64 (z.1:Int)),(9,.int .u32 ((s / 2 ^ (8*z.1):Nat):Int)),(4,.slice z.2.1 ((G8 r).length+z.1) z.2.2.1)]) (fun z w'=>z.1≤4∧Ctx w0 [] w' ((b1,Bl 33 (AJ r q))::ent z.2.1 5 z.2.2.2)∧OS z.2.1 ((G8 r).length+z.1) z.2.2.1 1 z.2.2.2 ((G8 r++leB s z.1).map bv)) (fun z=>4 - z.1) (0,a4,c4,f4) rfl ?_ ?_ ?_
      ·exact ⟨rfl,by simp; rfl,rfl,trivial⟩
      ·exact ⟨Nat.zero_le _,H,by simpa [leB] using O⟩
      ·clear H O
       rintro ⟨k,a4,c4,f4⟩ j w ⟨hk,H,O⟩; dsimp only at hk H O; dsimp only
       refine Af (AV rfl rfl rfl (Ab (Aa (Aq (Ax _ rfl ?_ ?_)))))
       ·intro h5
        replace h5:=AE h5
        refine Aw (Aa (Aq (Av (Af (Ak rfl rfl (Ad rfl rfl (Lg rfl rfl W8 JY ?_)))))))
        rw [KS]
        refine Db _ (.int _ _) rfl Dq Ix Nq rfl (by decide) (by decide) rfl rfl rfl H ?_
        rintro b113 w - H
        refine Dc (L:=[(b1,Bl 33 (AJ r q))]) rfl Dq Dq Ix Wb Nq rfl (by decide) rfl rfl H O rfl (by simp [Bu]) (by omega) ?_
        rintro a9 c9 f9 w H O
        refine A6 rfl rfl (Ab (Aa (Ap (Ad rfl rfl (Md (n:=8) rfl rfl rfl (by omega) ?_)))))
        refine Ae rfl rfl (Ab (A2 (Aa (Ap (Ao rfl rfl rfl (by omega) (by omega) ?_)))))
        refine Ad rfl rfl (Ab (Aa ?_))
        refine ⟨(k+1,a9,c9,f9),rfl,⟨rfl,congrArg (Value.int .u32) (by rw [Nat.div_div_eq_div_mul,← Nat.pow_add,Nat.mul_succ]),rfl,trivial⟩,⟨by omega,H,?_⟩,by dsimp only; omega⟩
        dsimp only
        have O':OS a9 ((G8 r).length+(k+1)) c9 1 f9 ((G8 r++leB s k).map bv++[UInt8.ofNat (s / 2 ^ (8*k))].map bv):=O
        rw [← List.map_append,List.append_assoc,← XL] at O'
        exact O'
       ·intro h5
        replace h5:=AF h5
        obtain rfl:k=4:=by omega
        refine Bh (Aj (Aj (AB (Aa (Af (Ak rfl rfl (A6 rfl rfl (Ae rfl rfl (Ab (Aa (A9 (DE (v1:=(.slice _ _ _)) (v2:=(.int _ _)) rfl rfl rfl rfl ?_))))))))))))
        refine ⟨fun _=>⟨_,rfl,?_⟩,fun h=>(by rw [h1] at h; cases h)⟩
        have hB:CF r=G8 r++leB s 4:=by unfold CF; rw [hs]
        rw [hB]
        exact Ctx.fresh (L:=[(b1,Bl 33 (AJ r q))]) H O
end Go.Proofs.YtapphbmlkdhnmaaGreat

/- The rooms and the dues of a right round. -/
namespace Go.Proofs.YtapphbmlkdhnmaaGreat
open Go.GV
attribute [local irreducible] A1 W Wq Wt

/-- What lies behind the dues. -/
theorem Kr {r:Rnd} (W:WR r) {i:Nat} {e:Ed} (hi:r.ids.length≤i) (he:r.es[i]? = some e):r.cmp=false∧(r.es.length:Int)=r.ids.length+2*(r.N - 1) ∧
  ((∃ b:Nat,i=r.ids.length+2*b∧(b:Int)<r.N - 1∧e.f=r.N - 1∧e.t=b∧e.cost=0)∨(∃ b:Nat,i=r.ids.length+2*b+1∧(b:Int)<r.N - 1∧e.f=b∧e.t=r.N - 1∧e.cap=4503599627370496∧e.cost=0)):=by
 have hr:=W.rest
 have hl:=Cr he
 have hde:=W.de
 unfold HW at hr
 by_cases hc:r.cmp=true
 ·rw [if_pos hc,decide_eq_true_eq,List.length_drop] at hr
  omega
 ·rw [if_neg hc,Bool.and_eq_true,decide_eq_true_eq,List.length_drop,List.all_eq_true] at hr
  obtain ⟨h1,h2⟩:=hr
  have hN:=W.N1
  refine ⟨by simpa using hc,by omega,?_⟩
  obtain ⟨b,hb⟩:∃ b,b=(i - r.ids.length) / 2:=⟨_,rfl⟩
  have h3:=h2 b (List.mem_range.2 (by omega))
  unfold IB at h3
  rw [Bool.and_eq_true,decide_eq_true_eq,decide_eq_true_eq] at h3
  rcases Nat.mod_two_eq_zero_or_one (i - r.ids.length) with h4 | h4
  ·left
   have hib:i=r.ids.length+2*b:=by omega
   have h5:(r.es.drop r.ids.length).getD (2*b) e0=e:=AU (by rw [List.getElem?_drop,← hib]; exact he)
   rw [h5] at h3
   obtain ⟨⟨g1,g2⟩,g3⟩:=Zy.1 h3.1
   exact ⟨b,hib,by omega,g1,g2,g3⟩
  ·right
   have hib:i=r.ids.length+2*b+1:=by omega
   have h5:(r.es.drop r.ids.length).getD (2*b+1) e0=e:=AU (by rw [List.getElem?_drop,← Nat.add_assoc,← hib]; exact he)
   rw [h5] at h3
   have h6:=h3.2
   subst h6
   exact ⟨b,hib,by omega,rfl,rfl,rfl,rfl⟩
def MV (r:Rnd) (i:Nat):Du:=⟨r.ids.getD i 0,(r.es.getD i e0).f,(r.es.getD i e0).t,(r.es.getD i e0).cap,-(r.es.getD i e0).cost,0,false⟩
def CQ (r:Rnd) (k:Nat):List Du:=(List.range k).map (MV r)
def Dk (r:Rnd) (i b:Nat):Int:=if r.ids.length+2*b<i then (r.es.getD (r.ids.length+2*b) e0).cap else 0
def CB (r:Rnd):List Int:=tab (Dk r r.es.length) (r.N - 1).toNat
def Ks (r:Rnd):List Int × List Du × Int:=if B7 r=true then (CB r,CQ r r.ids.length,0) else ([],[],1)
theorem Gm (r:Rnd) (k:Nat):(CQ r k).length=k:=by unfold CQ; rw [List.length_map,List.length_range]
theorem SV {r:Rnd} {k:Nat} {x:Int} {e:Ed} (hx:r.ids[k]? = some x) (he:r.es[k]? = some e):CQ r (k+1)=CQ r k++[⟨x,e.f,e.t,e.cap,-e.cost,0,false⟩]:=by
 unfold CQ
 rw [List.range_succ,List.map_append]
 show _++[MV r k]=_
 unfold MV
 rw [AU hx,AU he]
theorem XN {r:Rnd} {i b:Nat} (h:i=r.ids.length+2*b+1) (q:Nat):Dk r (i+1) q=Dk r i q:=by
 unfold Dk
 by_cases h1:r.ids.length+2*q<i
 ·rw [if_pos h1,if_pos (by omega)]
 ·rw [if_neg h1,if_neg (by omega)]
theorem Vt {r:Rnd} {i b:Nat} {e:Ed} (h:i=r.ids.length+2*b) (he:r.es[i]? = some e):Dk r (i+1) b=e.cap∧∀ q,q≠b→Dk r (i+1) q=Dk r i q:=by
 refine ⟨?_,fun q hq=>?_⟩
 ·unfold Dk
  rw [if_pos (by omega),AU (by rw [← h]; exact he)]
 ·unfold Dk
  by_cases h1:r.ids.length+2*q<i
  ·rw [if_pos h1,if_pos (by omega)]
  ·rw [if_neg h1,if_neg (by omega)]
def PA (w:World) (r:Rnd) (v:Value) (w':World):Prop :=
 ∃ vR vD,v = .tuple #[vR,vD,.int .i64 (Ks r).2.2]∧Sl w w' vR 1 I1 (Ks r).1∧Sl w w' vD 7 CP (Ks r).2.1∧Ext [] w w'
theorem Sl.nil {α:Type} {w w':World} {s:Nat} {enc:α→List Value}:Sl w w' (.slice none 0 0) s enc []:=⟨none,0,rfl,Nat.le_refl _,Rd.nil,fun h=>absurd rfl h⟩
set_option maxRecDepth 20000 in
set_option maxHeartbeats 4000000 in
theorem XO (r:Rnd) (q:RSl) (w:World) (RA:RAt w r q) (hEc:r.es.length≤q.cE) (hr:RBnd r):Ret Tryz.prog 37 #[.agg (AJ r q).toArray] w (PA w r):=by
 obtain ⟨w0,rfl⟩:∃ w0,w0=w:=⟨_,rfl⟩
 have H:=Ctx.start w0 []
 obtain ⟨wr,hwr⟩:∃ wr,wr=B7 r:=⟨_,rfl⟩
 refine A0 (fn:=Tryz.f37) Tryz.func37 rfl [.agg (AJ r q).toArray] rfl (by kernel_rfl) ?_
 refine Af (B2 rfl (AJ r q) (.agg _) rfl rfl H ?_)
 rintro b1 w - H
 refine A6 rfl rfl (A6 rfl rfl (Ae rfl rfl (Ab (Aa (Aq (Af (Bq rfl C6 Cp rfl H at0 rfl (Al rfl Lj (Fc r q _ (RA.ext0 H.ext) hEc hr) rfl ?_))))))))
 rintro v w ⟨rfl,hx8⟩
 replace H:=H.call hx8
 rw [← hwr]
 refine Bv rfl rfl (Ab (Aa (Ax _ rfl ?_ ?_)))
 ·intro h1
  replace h1:=B0 h1
  refine Af (A6 rfl rfl (A6 rfl rfl (Ae rfl rfl (Ab (Aa (A9 (Am (DP (v1:=(.slice _ _ _)) (v2:=(.slice _ _ _)) (v3:=(.int _ _)) rfl rfl rfl rfl rfl ?_))))))))
  have h1':B7 r=false:=by rw [← hwr]; simpa using h1
  have hP:Ks r=([],[],1):=by unfold Ks; rw [if_neg (by rw [h1']; decide)]
  unfold PA
  rw [hP]
  exact ⟨_,_,rfl,Sl.nil,Sl.nil,H.ext⟩
 ·intro h1
  replace h1:=B1 h1
  have h1':B7 r=true:=by rw [← hwr]; simpa using h1
  have WW:=Ko h1'
  have hN1:=WW.N1
  have hN17:=WW.N17
  have hde:=WW.de
  have hd64:=WW.d64
  have he200:=WW.e200
  have hP:Ks r=(CB r,CQ r r.ids.length,0):=by unfold Ks; rw [if_pos h1']
  obtain ⟨hh,hhN⟩:∃ hh:Nat,r.N - 1=hh:=⟨(r.N - 1).toNat,by omega⟩
  have RI:=RA.I
  have RE:=RA.E
  refine Aw (Aa (Af (Bq rfl C6 Cp rfl H at0 rfl (Al rfl Ie (Ga r q _ (by omega)) rfl ?_))))
  rintro v w ⟨rfl,hx11⟩
  replace H:=H.call hx11
  rw [hhN]
  refine Ge rfl AX Bw Mu FX rfl rfl (by omega) (by omega) (by omega) (by omega) H ?_
  rintro b12 w - H
  rw [Int.toNat_natCast,Ej] at H
  rw [Int.toNat_natCast]
  refine A6 rfl rfl (Ab (Aa (Aq (Af (Ah rfl Fo rfl (Ah rfl CR rfl (AM rfl Ec rfl H at1 rfl (Be rfl C9 rfl (Ad rfl rfl (Ab (Aa ?_)))))))))))
  refine Av ?_
  have hz:(fun _:Nat=>Value.int .i64 0)=fun q => .int .i64 (Dk r 0 q):=by
   funext q
   unfold Dk
   rw [if_neg (by omega)]
  rw [hz] at H
  refine Bm 576460752303292520 (α:=LSt) (fun t=>[(17,.int .i64 (t.i:Int)),(3,.slice t.a (min t.i r.ids.length) t.c)]) (fun t w'=>t.i≤r.es.length∧OS t.a (min t.i r.ids.length) t.c 7 t.full ((CQ r (min t.i r.ids.length)).flatMap CP)∧Ctx w0 [] w' ([(b12,Bl 2 (B5 (Dk r t.i) hh)),(b1,Bl 33 (AJ r q))]++ent t.a 62 t.full)) (fun t=>r.es.length - t.i) ⟨0,none,0,[]⟩ rfl ?_ ?_ ?_
  ·exact ⟨rfl,by dsimp only; rw [Nat.zero_min]; rfl,trivial⟩
  ·exact ⟨Nat.zero_le _,by dsimp only; rw [Nat.zero_min]; exact OS.nil,H⟩
  ·clear H hz
   rintro ⟨i,aD,cD,fD⟩ jj w ⟨hi,O,H⟩; dsimp only at hi O H; dsimp only
   refine Af (AV rfl rfl rfl (Ab (Aa (Aq (Ax _ rfl ?_ ?_)))))
   ·intro h2
    replace h2:=AE h2
    obtain ⟨e,he⟩:=A4 (l:=r.es) (i:=i) (by omega)
    have hE1:=Dj ((BX (BA WW.wi).2.1).2.2.2.1 e (List.mem_of_getElem? he))
    refine Aw (Aa (Aq (Av (Af (Ad rfl rfl (Ba RE rfl C9 Ci rfl rfl (by omega) (by omega) (by rfl) ?_))))))
    refine Cx _ rfl EW Ci rfl rfl (((RE.ext0 H.ext).row he rfl)) ?_
    refine Bo rfl Es H ?_
    rintro b6 w - H
    refine Ae rfl rfl (BP rfl Ci rfl rfl rfl (by exact DQ _) H at0 rfl ?_)
    rintro w H
    refine Ab (Aa (Av ?_))
    replace H:Ctx w0 [] _ ([(b6,Bl 92 (B6 e)),(b12,Bl 2 (B5 (Dk r i) hh)),(b1,Bl 33 (AJ r q))]++ent aD 62 fD):=H
    refine Af (Ad rfl rfl (Ah rfl EK rfl (AM rfl Fy rfl H at2 rfl (Be rfl Bd rfl (AV rfl rfl rfl (Ai rfl rfl (Ab (Aa (Ax _ rfl ?_ ?_)))))))))
    ·intro h3
     replace h3:=AE h3
     have h3':i<r.ids.length:=by omega
     obtain ⟨x,hxx⟩:=A4 h3'
     rw [Nat.min_eq_left (Nat.le_of_lt h3')] at O ⊢
     refine E7 [([0,1,2,3,4,5,6,7,8,9,10,11,12,13,14,15],16),([],17),([],18)] (fun z=>z.heap[b6]? = some (Bl 92 (B6 e))∧z.heap[b1]? = some (Bl 33 (AJ r q))∧Rd z q.aI 1 U1 r.ids) [] Bz (by kernel_rfl) (⟨H.drew.get at0,H.drew.get at2,RI.ext0 H.drew.ext⟩) ?_
     refine AO rfl rfl ?_
     refine Bj rfl rfl (AL rfl EK rfl (BQ rfl Fy rfl (fun _ hx=>(by rw [An hx.2.1]; rfl)) ?_))
     refine AN rfl rfl (CE RI rfl Bd AZ rfl rfl (by omega) (by omega) (by rfl) ?_)
     refine BQ rfl BD rfl (fun _ hx=>(hx.2.2.fld hxx rfl (j:=0) rfl)) ?_
     refine AL rfl DL rfl (BQ rfl BS rfl (fun _ hx=>(by rw [An hx.1]; rfl)) ?_)
     refine AL rfl Er rfl (BQ rfl BS rfl (fun _ hx=>(by rw [An hx.1]; rfl)) ?_)
     refine AL rfl D4 rfl (BQ rfl B9 rfl (fun _ hx=>(by rw [An hx.1]; rfl)) ?_)
     refine AL rfl EL rfl (BQ rfl B9 rfl (fun _ hx=>(by rw [An hx.1]; rfl)) ?_)
     refine N9 rfl rfl (by omega) (by omega) ?_
     refine Qb (CP ⟨x,e.f,e.t,e.cap,-e.cost,0,false⟩) rfl ZT Fp (by kernel_rfl) ?_
     refine Bx ?_
     replace H:=H.drew
     refine Db _ (.agg _) rfl CC CA Fp rfl (by decide) (by decide) rfl rfl rfl H ?_
     rintro b44 w - H
     refine Ab (C2 (⟨H.get at1,H.get at3,RI.ext0 H.ext⟩) (AO rfl rfl ?_))
     refine Bx (Dc (L:=[_,_,_]) rfl CC CC CA T2 Fp rfl (by decide) rfl rfl H O rfl (Ez _) (by omega) ?_)
     rintro aD' cD' fD' w H O
     refine Ab (C2 (⟨H.get at0,H.get at2,RI.ext0 H.ext⟩) (AO rfl rfl ?_))
     refine Bx (A6 rfl rfl (Ab (C2 (⟨H.get at0,H.get at2,RI.ext0 H.ext⟩) (BL (A2 (A2 (Aa (Ap (Ao rfl rfl rfl (by omega) (by omega) ?_)))))))))
     refine Ad rfl rfl (Ab (Aa ?_))
     refine ⟨⟨i+1,aD',cD',fD'⟩,rfl,⟨rfl,by dsimp only; rw [Nat.min_eq_left (show i+1≤r.ids.length by omega)]; rfl,trivial⟩,⟨by dsimp only; omega,?_,?_⟩,by dsimp only; omega⟩
     ·dsimp only
      rw [Nat.min_eq_left (show i+1≤r.ids.length by omega),SV hxx he,List.flatMap_append]
      exact (by simpa using O)
     ·dsimp only
      have hsm:B5 (Dk r (i+1)) hh=B5 (Dk r i) hh:=List.map_congr_left fun q _=>by
       unfold Dk
       rw [if_neg (by omega),if_neg (by omega)]
      rw [hsm]
      exact H.tail
    ·intro h3
     replace h3:=AF h3
     have h3':r.ids.length≤i:=by omega
     rw [Nat.min_eq_right h3'] at O ⊢
     have hm1:min (i+1) r.ids.length=r.ids.length:=Nat.min_eq_right (by omega)
     have HG:=H
     have hb6:=HG.get at0
     have hb1:=HG.get at2
     obtain ⟨w1,rfl⟩:∃ z,z=w:=⟨_,rfl⟩
     have H:=Ctx.start w1 []
     rcases (Kr WW h3' he).2.2 with ⟨b,hib,hbh,hf,ht,-⟩ | ⟨b,hib,hbh,hf,-⟩
     ·skip
      obtain ⟨hr1,hr2⟩:=Vt hib he
      refine CH [([0,1,2],3),([4],5)] (fun z=>Ext [] w1 z) [] Bz (by kernel_rfl) (Ext.drew [] w1) ?_
      refine AO rfl rfl ?_
      refine AL rfl DL rfl (BQ rfl BS rfl (fun _ hx=>(by rw [An (hx.to hb6 (by simp))]; rfl)) ?_)
      refine Fx _ rfl C6 Cp rfl rfl (fun _ hx=>(C8 (b:=b1) (t:=33) (l:=AJ r q) (hx.to hb1 (by simp)) 0 (AJ r q) rfl)) ?_
      refine Bx ?_
      replace H:=H.drew
      refine Al rfl Ie (Ga r q _ (by omega)) rfl ?_
      rintro v w ⟨rfl,hx50⟩
      replace H:=H.call hx50
      refine Ab (C2 (H.ext) (AO rfl rfl ?_))
      refine VI rfl rfl rfl ?_
      rw [show decide (e.f=r.N - 1)=true from decide_eq_true hf]
      refine Bx (Ai rfl rfl (Ab (C2 (H.ext) (BL (CI rfl (Ap (Ak rfl rfl (Ah rfl Er rfl (AY rfl BS rfl ((by rw [An (H.ext.to hb6 (by simp))]; rfl)) ?_)))))))))
      refine Ah rfl D4 rfl (AY rfl B9 rfl ((by rw [An (H.ext.to hb6 (by simp))]; rfl)) ?_)
      replace H:=HG.call H.ext
      refine Bg rfl AX Bw rfl rfl (by omega) (by omega) ?_
      refine BM b (fun q => .int .i64 (Dk r (i+1) q)) (.int _ _) rfl Bw rfl rfl rfl H at1 (by rw [ht]; simp) (by omega) (by rw [hr1]) (fun q _ hq=>by rw [hr2 q hq]) ?_
      rintro w H
      refine Ab (A2 (A2 (Aa (Ap (Ao rfl rfl rfl (by omega) (by omega) ?_)))))
      refine Ad rfl rfl (Ab (Aa ?_))
      exact ⟨⟨i+1,aD,cD,fD⟩,rfl,⟨rfl,by dsimp only; rw [hm1]; rfl,trivial⟩,⟨by dsimp only; omega,by dsimp only; rw [hm1]; exact O,Ctx.tail H⟩,by dsimp only; omega⟩
     ·skip
      refine CH [([0,1,2],3),([4],5)] (fun z=>Ext [] w1 z) [] Bz (by kernel_rfl) (Ext.drew [] w1) ?_
      refine AO rfl rfl ?_
      refine AL rfl DL rfl (BQ rfl BS rfl (fun _ hx=>(by rw [An (hx.to hb6 (by simp))]; rfl)) ?_)
      refine Fx _ rfl C6 Cp rfl rfl (fun _ hx=>(C8 (b:=b1) (t:=33) (l:=AJ r q) (hx.to hb1 (by simp)) 0 (AJ r q) rfl)) ?_
      refine Bx ?_
      replace H:=H.drew
      refine Al rfl Ie (Ga r q _ (by omega)) rfl ?_
      rintro v w ⟨rfl,hx50⟩
      replace H:=H.call hx50
      refine Ab (C2 (H.ext) (AO rfl rfl ?_))
      refine VI rfl rfl rfl ?_
      rw [show decide (e.f=r.N - 1)=false from decide_eq_false (by omega)]
      refine Bx (Ai rfl rfl (Ab (C2 (H.ext) (BL (EJ rfl (Aw (A2 (A2 (Aa (Ap (Ao rfl rfl rfl (by omega) (by omega) ?_)))))))))))
      refine Ad rfl rfl (Ab (Aa ?_))
      refine ⟨⟨i+1,aD,cD,fD⟩,rfl,⟨rfl,by dsimp only; rw [hm1]; rfl,trivial⟩,⟨by dsimp only; omega,by dsimp only; rw [hm1]; exact O,?_⟩,by dsimp only; omega⟩
      dsimp only
      have hsm:B5 (Dk r (i+1)) hh=B5 (Dk r i) hh:=List.map_congr_left fun q _=>by rw [XN hib]
      rw [hsm]
      exact Ctx.tail (HG.call H.ext)
   ·intro h2
    replace h2:=AF h2
    obtain rfl:i=r.es.length:=by omega
    rw [Nat.min_eq_right hde] at O ⊢
    refine Bh (Aj (Aj (AB (Aa (Af (Ak rfl rfl (Ak rfl rfl (A6 rfl rfl (A6 rfl rfl (Ae rfl rfl (Ab (Aa (A9 (DP (v1:=(.slice _ _ _)) (v2:=(.slice _ _ _)) (v3:=(.int _ _)) rfl rfl rfl rfl rfl ?_))))))))))))))
    unfold PA
    rw [hP]
    refine ⟨_,_,rfl,⟨some ⟨b12,0,none⟩,hh,?_,?_,?_,fun _=>?_⟩,⟨aD,cD,by dsimp only; rw [Gm],by dsimp only; rw [Gm]; exact O.le,OS.rd O (fun x hx=>H.blk x (List.mem_append_right _ hx)) (fun _ _=>rfl) (by decide),fun hne=>?_⟩,H.ext⟩
    ·show Value.slice (some ⟨b12,0,none⟩) hh hh=_
     unfold CB
     rw [Cy,hhN,Int.toNat_natCast]
    ·show (CB r).length≤hh
     unfold CB
     rw [Cy,hhN,Int.toNat_natCast]; exact Nat.le_refl _
    ·unfold CB
     rw [hhN,Int.toNat_natCast]
     exact Ck (H.get at0)
    ·exact (H.own _ (List.mem_append_left _ (List.mem_cons_self ..))).elim (fun h=>by cases h) id
    ·obtain ⟨p,rfl⟩:=O.form (by have:=List.length_pos_iff.2 hne; dsimp only at this; rw [Gm] at this; exact this)
     exact (H.own (p,Bl 62 fD) (List.mem_append_right _ (List.mem_singleton.2 rfl))).elim (fun h=>by cases h) id
end Go.Proofs.YtapphbmlkdhnmaaGreat

/- The reference's bytes of a round: the same. -/
namespace Go.Proofs.YtapphbmlkdhnmaaGreat
open Go.GV
attribute [local irreducible] A1 W Wq Wt

theorem Ku {x:Int} (h0:0≤x) (h1:x<256):BG (u64 x) 1=[by8 x]:=by
 have h:u64 x=(x % 256).toNat:=by unfold u64; omega
 rw [h]
 simp [BG,by8]
theorem XP (b:Bool):BG (bif b then 1 else 0) 1=[bif b then 1 else 0]:=by cases b <;> rfl
theorem Ud (s:Nat):leB s 4=[UInt8.ofNat s,UInt8.ofNat (s / 2 ^ 8),UInt8.ofNat (s / 2 ^ 16),UInt8.ofNat (s / 2 ^ 24)]:=by simp [leB,List.range_succ]
/-- A bank's two edges. -/
theorem Ue {r:Rnd} (W:WR r) {k:Nat} (h:r.ids.length+2*k+1<r.es.length):∃ e1 e2 x1 x2,r.es[r.ids.length+2*k]? = some e1∧r.es[r.ids.length+2*k+1]? = some e2∧r.fl[r.ids.length+2*k]? = some x1∧r.fl[r.ids.length+2*k+1]? = some x2 ∧
  esB r (r.ids.length+2*(k+1))=esB r (r.ids.length+2*k)++BG (u64 e1.cap) 8++BG (u64 x1) 8++BG (u64 x2) 8:=by
 have hl:=W.len
 obtain ⟨e1,h1⟩:=A4 (l:=r.es) (i:=r.ids.length+2*k) (by omega)
 obtain ⟨e2,h2⟩:=A4 (l:=r.es) (i:=r.ids.length+2*k+1) h
 obtain ⟨x1,h3⟩:=A4 (l:=r.fl) (i:=r.ids.length+2*k) (by omega)
 obtain ⟨x2,h4⟩:=A4 (l:=r.fl) (i:=r.ids.length+2*k+1) (by omega)
 refine ⟨e1,e2,x1,x2,h1,h2,h3,h4,?_⟩
 have hf1:e1.f=r.N - 1:=by
  rcases (Kr W (by omega) h1).2.2 with ⟨b,_,_,h,-⟩ | ⟨b,h5,-⟩
  ·exact h
  ·omega
 have hf2:e2.f≠r.N - 1:=by
  rcases (Kr W (by omega) h2).2.2 with ⟨b,h5,-⟩ | ⟨b,_,h6,h7,-⟩
  ·omega
  ·omega
 rw [show r.ids.length+2*(k+1)=r.ids.length+2*k+1+1 from by omega,IF h2 h4,IF h1 h3]
 have g1:eB r (r.ids.length+2*k) e1 x1=BG (u64 e1.cap) 8++BG (u64 x1) 8:=by unfold eB; rw [if_neg (by omega),if_pos hf1]
 have g2:eB r (r.ids.length+2*k+1) e2 x2=BG (u64 x2) 8:=by unfold eB; rw [if_neg (by omega),if_neg hf2]
 rw [g1,g2]
 simp only [List.append_assoc]
end Go.Proofs.YtapphbmlkdhnmaaGreat

/- What takes numbers off bytes, one behind the other: the program's two functions, and the reference's reader. -/
namespace Go.Proofs.YtapphbmlkdhnmaaGreat
open Go.GV
attribute [local irreducible] A1 W Wq Wt

/-- A number of k bytes, and what stands behind it; once one is missing, nothing more is read. -/
def nx (l:List UInt8) (k:Nat) (s:Nat × Bool):Nat × (Nat × Bool) :=
 if s.2=true then (0,s) else if s.1+k≤l.length then (numN ((l.drop s.1).take k),(s.1+k,false)) else (0,(s.1,true))
theorem XQ {l:List UInt8} {k p:Nat} (h:p+k≤l.length):nx l k (p,false)=(numN ((l.drop p).take k),(p+k,false)):=by
 unfold nx
 rw [if_neg Bool.false_ne_true,if_pos h]
theorem Adu {l:List UInt8} {k p:Nat} (h:¬ p+k≤l.length):nx l k (p,false)=(0,(p,true)):=by
 unfold nx
 rw [if_neg Bool.false_ne_true,if_neg h]
theorem GP {l:List UInt8} {k:Nat} {s:Nat × Bool} (h:s.1≤l.length):(nx l k s).2.1≤l.length:=by
 unfold nx
 split
 ·exact h
 ·split
  ·assumption
  ·exact h
theorem Aai (l:List UInt8) {k:Nat} (hk:k≤8) (s:Nat × Bool):(nx l k s).1<18446744073709551616:=by
 unfold nx
 split
 ·show (0:Nat)<_
  decide
 ·split
  ·have h1:=Kq ((l.drop s.1).take k)
   have h2:((l.drop s.1).take k).length≤8:=by rw [List.length_take]; omega
   have h3:256 ^ ((l.drop s.1).take k).length≤256 ^ 8:=Nat.pow_le_pow_right (by decide) h2
   show numN _<_
   have h4:(256:Nat) ^ 8=18446744073709551616:=by decide
   omega
  ·show (0:Nat)<_
   decide
abbrev Oo (k:Nat):Prop:=k=1∨k=2∨k=4∨k=8
theorem Ra {l:List UInt8} {p k:Nat} (hk:Oo k) (h:p+k≤l.length):IE l (p:Int) (k:Int) = .tuple #[.int .u64 (numN ((l.drop p).take k):Int),.int .i64 ((p:Int)+(k:Int)),.int .i64 0]:=by
 have hs:Ht (k:Int)=true:=by rcases hk with rfl | rfl | rfl | rfl <;> rfl
 have he:GO l (p:Int) (k:Int)=0:=by
  unfold GO
  rw [hs,decide_eq_true (show (0:Int)≤(p:Int) by omega),decide_eq_true (show (p:Int)≤(l.length:Int) by omega),decide_eq_true (show (k:Int)≤(l.length:Int) - (p:Int) by omega)]
  rfl
 unfold IE
 rw [he]
 rfl
theorem Rb {l:List UInt8} {p k:Nat} (hk:Oo k) (hp:p≤l.length) (h:¬ p+k≤l.length):IE l (p:Int) (k:Int) = .tuple #[.int .u64 0,.int .i64 0,.int .i64 5]:=by
 have hs:Ht (k:Int)=true:=by rcases hk with rfl | rfl | rfl | rfl <;> rfl
 have he:GO l (p:Int) (k:Int)=5:=by
  unfold GO
  rw [hs,decide_eq_true (show (0:Int)≤(p:Int) by omega),decide_eq_true (show (p:Int)≤(l.length:Int) by omega),decide_eq_false (show ¬ (k:Int)≤(l.length:Int) - (p:Int) by omega)]
  rfl
 unfold IE
 rw [he]
 rfl
/-- What a take answers, whatever it is. -/
theorem XR {l:List UInt8} {p k:Nat} (hk:Oo k) (hp:p≤l.length):∃ (n:Nat) (o e:Int),IE l (p:Int) (k:Int) = .tuple #[.int .u64 (n:Int),.int .i64 o,.int .i64 e]:=by
 by_cases h:p+k≤l.length
 ·exact ⟨_,_,_,Ra hk h⟩
 ·exact ⟨0,0,5,Rb hk hp h⟩
/-- Where the bytes lie, and that they stay. -/
structure TkB (w:World) (S:List Nat) (a:Option Addr) (c:Nat) (l:List UInt8):Prop where
 R:Rd w a 1 B8 l
 off:l≠[]→(adr a).block∉S
 hc:l.length≤c
 hm:l.length≤100000
theorem TkB.at {w w':World} {S:List Nat} {a:Option Addr} {c:Nat} {l:List UInt8} (B:TkB w S a c l) (h:Ext S w w'):Rd w' a 1 B8 l:=by
 by_cases hl:l=[]
 ·subst hl; exact Rd.nil
 ·exact B.R.ext h (B.off hl)
theorem TkB.ext {w w':World} {S:List Nat} {a:Option Addr} {c:Nat} {l:List UInt8} (B:TkB w S a c l) (h:Ext S w w'):TkB w' S a c l:=⟨B.at h,B.off,B.hc,B.hm⟩
abbrev tkL (ba bd:Nat) (s:Nat × Bool):List (Nat × Obj):=[(ba,Bl 3 [.int .i64 (s.1:Int)]),(bd,Bl 4 [.bool s.2])]
set_option maxHeartbeats 1000000 in
theorem XS (bb ba bd:Nat) (a:Option Addr) (c:Nat) (l:List UInt8) (s:Nat × Bool) (k:Nat) (w:World) (B:TkB w [ba,bd] a c l) (hb:w.heap[bb]? = some (Bl 69 [.slice a l.length c])) (nb:bb∉[ba,bd]) (H:Ctx w [ba,bd] w (tkL ba bd s)) (hs:s.1≤l.length) (hk:Oo k) :
  Ret Tryz.prog 144 #[.int .i64 (k:Int),ptr bb,ptr ba,ptr bd] w fun v w'=>v = .int .u64 ((nx l k s).1:Int)∧Ctx w [ba,bd] w' (tkL ba bd (nx l k s).2):=by
 obtain ⟨w0,rfl⟩:∃ w0,w0=w:=⟨_,rfl⟩
 obtain ⟨p,bad⟩:=s
 dsimp only at hs
 have hm:=B.hm
 cases bad with
 | true =>
  obtain ⟨n,o,e,hT⟩:=XR (k:=k) hk hs
  refine A0 (fn:=Tryz.f144) Tryz.func144 rfl [.int .i64 (k:Int),ptr bb,ptr ba,ptr bd] rfl (by kernel_rfl) ?_
  refine Af (Ae rfl rfl (Ab (Aa (Af (AY rfl VZ rfl ((by rw [An (H.ext.to hb nb)]; rfl)) ?_)))))
  refine AM rfl BS rfl H at0 rfl (Ad rfl rfl (Al rfl Se (MU a c _ l (p:Int) (k:Int) _ (B.at H.ext) rfl (by omega) B.hc) rfl ?_))
  rintro v w ⟨rfl,hx13⟩
  replace H:=H.call hx13
  rw [hT]
  refine BK rfl rfl (A5 rfl rfl rfl (A5 rfl rfl rfl (A5 rfl rfl rfl (Ae rfl rfl (Ae rfl rfl (Ae rfl rfl (Ab (Aa (Aq (Af ?_))))))))))
  refine AM rfl Hh rfl H at1 rfl (Ay rfl rfl (Ag rfl (Ag rfl (A3 rfl rfl (.bool _) rfl (BV (.bool _) rfl Pb rfl rfl rfl H at1 (by (simp; done)) ?_)))))
  rintro w H
  refine Ab (Aa (Af (AM rfl Hh rfl H at1 rfl (Ab (Aa (CI rfl (Af (Ae rfl rfl (Ab (Aa (A9 (Am (AC (v:=(.int _ _)) rfl rfl rfl ?_)))))))))))))
  exact ⟨rfl,H⟩
 | false =>
  by_cases hf:p+k≤l.length
  ·have hT:=Ra hk hf
   rw [XQ hf]
   refine A0 (fn:=Tryz.f144) Tryz.func144 rfl [.int .i64 (k:Int),ptr bb,ptr ba,ptr bd] rfl (by kernel_rfl) ?_
   refine Af (Ae rfl rfl (Ab (Aa (Af (AY rfl VZ rfl ((by rw [An (H.ext.to hb nb)]; rfl)) ?_)))))
   refine AM rfl BS rfl H at0 rfl (Ad rfl rfl (Al rfl Se (MU a c _ l (p:Int) (k:Int) _ (B.at H.ext) rfl (by omega) B.hc) rfl ?_))
   rintro v w ⟨rfl,hx13⟩
   replace H:=H.call hx13
   rw [hT]
   refine BK rfl rfl (A5 rfl rfl rfl (A5 rfl rfl rfl (A5 rfl rfl rfl (Ae rfl rfl (Ae rfl rfl (Ae rfl rfl (Ab (Aa (Aq (Af ?_))))))))))
   refine AM rfl Hh rfl H at1 rfl (Ay rfl rfl (Ad rfl rfl (CY rfl rfl rfl (AA rfl rfl (.bool _) rfl (BV (.bool _) rfl Pb rfl rfl rfl H at1 (by (simp; done)) ?_)))))
   rintro w H
   refine Ab (Aa (Af (AM rfl Hh rfl H at1 rfl (Ab (Aa (Ax _ rfl ?_ ?_))))))
   ·intro h1
    exact absurd h1 (by decide)
   ·intro h1
    refine Aw (Aa (Af (Ad rfl rfl (BV (.int _ _) rfl ED rfl rfl rfl H at0 (by (simp; done)) ?_))))
    rintro w H
    refine Ab (Aa (Af (Ad rfl rfl (Ae rfl rfl (Ab (Aa (A9 (AC (v:=(.int _ _)) rfl rfl rfl ?_))))))))
    exact ⟨rfl,H⟩
  ·have hT:=Rb hk hs hf
   rw [Adu hf]
   refine A0 (fn:=Tryz.f144) Tryz.func144 rfl [.int .i64 (k:Int),ptr bb,ptr ba,ptr bd] rfl (by kernel_rfl) ?_
   refine Af (Ae rfl rfl (Ab (Aa (Af (AY rfl VZ rfl ((by rw [An (H.ext.to hb nb)]; rfl)) ?_)))))
   refine AM rfl BS rfl H at0 rfl (Ad rfl rfl (Al rfl Se (MU a c _ l (p:Int) (k:Int) _ (B.at H.ext) rfl (by omega) B.hc) rfl ?_))
   rintro v w ⟨rfl,hx13⟩
   replace H:=H.call hx13
   rw [hT]
   refine BK rfl rfl (A5 rfl rfl rfl (A5 rfl rfl rfl (A5 rfl rfl rfl (Ae rfl rfl (Ae rfl rfl (Ae rfl rfl (Ab (Aa (Aq (Af ?_))))))))))
   refine AM rfl Hh rfl H at1 rfl (Ay rfl rfl (Ad rfl rfl (CY rfl rfl rfl (AA rfl rfl (.bool _) rfl (BV (.bool _) rfl Pb rfl rfl rfl H at1 (by (simp; done)) ?_)))))
   rintro w H
   refine Ab (Aa (Af (AM rfl Hh rfl H at1 rfl (Ab (Aa (Ax _ rfl ?_ ?_))))))
   ·intro h1
    refine Af (Ae rfl rfl (Ab (Aa (A9 (Am (AC (v:=(.int _ _)) rfl rfl rfl ?_))))))
    exact ⟨rfl,H⟩
   ·intro h1
    exact absurd h1 (by decide)
theorem PB (bd:Nat) (bad:Bool) (w:World) (hb:w.heap[bd]? = some (Bl 4 [.bool bad])):Ret Tryz.prog 146 #[ptr bd] w fun v w'=>v = .bool (!bad)∧Ext [] w w':=by
 obtain ⟨w0,rfl⟩:∃ w0,w0=w:=⟨_,rfl⟩
 have H:=Ctx.start w0 []
 refine A0 (fn:=Tryz.f146) Tryz.func146 rfl [ptr bd] rfl (by kernel_rfl) ?_
 refine Af (Ai rfl rfl (Ab (Aa (Af (AY rfl Hh rfl ((by rw [An (H.ext.to hb (by simp))]; rfl)) ?_)))))
 refine Bv rfl rfl (Ai rfl rfl (Ab (Aa (A9 (AC (v:=(.bool _)) rfl rfl rfl ?_)))))
 exact ⟨rfl,H.ext⟩
/-- The same number with a sign. -/
def s64 (n:Nat):Int:=IntKind.i64.wrap (n:Int)
abbrev Gc (bb ba bd:Nat):Value := .func (.func 144) #[] [ptr bb,ptr ba,ptr bd].toArray
theorem Adv (b4 bb ba bd:Nat) (a:Option Addr) (c:Nat) (l:List UInt8) (s:Nat × Bool) (w:World) (B:TkB w [ba,bd] a c l) (hb:w.heap[bb]? = some (Bl 69 [.slice a l.length c])) (nb:bb∉[ba,bd]) (H:Ctx w [ba,bd] w (tkL ba bd s)) (hs:s.1≤l.length)
  (h4:w.heap[b4]? = some (Bl 136 [Gc bb ba bd])):Ret Tryz.prog 80 #[ptr b4] w fun v w'=>v = .int .i64 (s64 (nx l 8 s).1)∧Ctx w [ba,bd] w' (tkL ba bd (nx l 8 s).2):=by
 obtain ⟨w0,rfl⟩:∃ w0,w0=w:=⟨_,rfl⟩
 refine A0 (fn:=Tryz.f80) Tryz.func80 rfl [ptr b4] rfl (by kernel_rfl) ?_
 refine Af (Ae rfl rfl (Ab (Aa (Af (AY rfl GR rfl ((by rw [An h4]; rfl)) ?_)))))
 refine Cb rfl rfl GU (XS bb ba bd a c l s 8 _ B hb nb H hs (.inr (.inr (.inr rfl)))) rfl ?_
 rintro v w ⟨rfl,H⟩
 refine Gp rfl rfl FM Sn ?_
 refine Ae rfl rfl (Ab (Aa (A9 (AC (v:=(.int _ _)) rfl rfl rfl ?_))))
 exact ⟨rfl,H⟩

/-! ### The reference's -/
abbrev rkL (br:Nat) (a:Option Addr) (c:Nat) (l:List UInt8) (s:Nat × Bool):List (Nat × Obj):=[(br,Bl 150 [.slice a l.length c,.int .i64 (s.1:Int),.bool s.2])]
end Go.Proofs.YtapphbmlkdhnmaaGreat
