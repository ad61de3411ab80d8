/- Part 11 of the proof. -/
import Derived.Test.YtapphbmlkdhnmaaGreatPart2
import Derived.Test.YtapphbmlkdhnmaaGreatPart10
import Derived.Test.YtapphbmlkdhnmaaGreatPart4
import Derived.Test.YtapphbmlkdhnmaaGreatPart3
/- What a right round says of a due, and of a bank. -/
namespace Go.Proofs.YtapphbmlkdhnmaaGreat
open Go.GV
attribute [local irreducible] AC W Wq Wt

/-- What a right round says. -/
structure WR (r:Rnd):Prop where
 chk:Et r.N r.es r.fl r.pot=true
 day:0≤r.day
 d64:r.ids.length≤64
 nd:r.ids.Nodup
 N1:1≤r.N
 N17:r.N≤17
 de:r.ids.length≤r.es.length
 e200:r.es.length≤200
 len:r.fl.length=r.es.length
 pot:(r.pot.length:Int)=r.N
 wi:BF r.N r.es r.fl=true
 due:∀ (i:Nat) (e:Ed),i<r.ids.length→r.es[i]? = some e→Ea (r.N - 1) e=true
 rest:GY r=true
theorem HZ {r:Rnd} (h:Bw r=true):WR r:=by
 unfold Bw at h;rw [Bool.and_eq_true,Bool.and_eq_true,List.all_eq_true] at h;obtain ⟨h1,h2,h3⟩:=h;obtain ⟨g1,g2,g3,g4,g5,g6⟩:=Ns h1;obtain ⟨k1,-,k3,k4,k5⟩:=JB g1;exact ⟨g1,g2,g3,g4,k1,by omega,g6,k3,k4,k5,(FK (HY.1 g1).1).1,fun i e hi he=>h2 e (List.mem_of_getElem? (by rw [List.getElem?_take,if_pos hi]; exact he)),h3⟩
theorem PW {h:Int} {e:Ed} (hw:Ea h e=true):e.f<h∧e.t<h∧e.f≠e.t∧1≤e.cap ∧ -1000≤e.cost∧e.cost ≤ -1:=by
 unfold Ea at hw;simp only [Bool.and_eq_true,decide_eq_true_eq,Bool.not_eq_true',decide_eq_false_iff_not] at hw;exact ⟨hw.1.1.1.1.1,hw.1.1.1.1.2,hw.1.1.1.2,hw.1.1.2,hw.1.2,hw.2⟩
/-- The first place of a number. -/
def PX (ids:List Int) (x:Int):Option Nat:=ids.findIdx? fun y=>decide (y=x)
theorem OW {ids:List Int} {x:Int} {i:Nat} (h:ids[i]? = some x) (hb:∀ (k:Nat) (y:Int),k<i→ids[k]? = some y→y≠x):PX ids x=some i:=by
 obtain ⟨h1,h2⟩:=List.getElem?_eq_some_iff.1 h;unfold PX;rw [List.findIdx?_eq_some_iff_getElem]
 exact ⟨h1,decide_eq_true h2,fun j hj=>by
  have:=hb j _ hj (List.getElem?_eq_getElem (by omega))
  simpa using this⟩
theorem OX {ids:List Int} {x:Int} (hb:∀ (k:Nat) (y:Int),ids[k]? = some y→y≠x):PX ids x=none:=by
 unfold PX;rw [List.findIdx?_eq_none_iff];intro y hy;obtain ⟨k,hk⟩:=List.mem_iff_getElem?.1 hy;exact decide_eq_false (hb k y hk)
def idxI (o:Option Nat):Int:=match o with | some i=>(i:Int) | none => -1
theorem XX (a:Option Addr) (n c:Nat) (ids:List Int) (x:Int) (w:World) (R:Rd w a 1 U1 ids) (hn:ids.length=n) (hn2:n≤1000000):Ret Tryz.prog 97 #[.slice a n c,.int .u64 x] w fun v w'=>v = .int .i64 (idxI (PX ids x))∧Ext [] w w':=by
 subst hn;obtain ⟨w0,rfl⟩:∃ w0,w0=w:=⟨_,rfl⟩;have H:=Ctx.start w0 [];refine A2 (fn:=Tryz.f97) Tryz.func97 U [.slice a ids.length c,.int .u64 x] U (by kernel_rfl) ?_;refine Ag (Ad U U (Ab (Aa (Aq (Ag (Ap U U (AV U Bf U (Ae U U (Ab (Aa (Av ?_)))))))))));refine Bd 524080 (α:=Nat) (fun i=>[(8,.int .i64 (i:Int))]) (fun i w'=>i≤ids.length∧Ctx w0 [] w' []∧∀ (k:Nat) (y:Int),k<i→ids[k]? = some y→y≠x) (fun i=>ids.length - i) 0 U ?_ ?_ ?_
 ·exact ⟨rfl,trivial⟩
 ·exact ⟨Nat.zero_le _,H,fun j e h=>absurd h (Nat.not_lt_zero _)⟩
 ·clear H;rintro i j w ⟨hi,H,hb⟩;refine Ag (AO U U U (Ab (Aa (Aq (Ay _ U ?_ ?_)))))
  ·intro h1;replace h1:=AG h1;obtain ⟨y,hy⟩:=AE (l:=ids) (i:=i) (by omega);have R1:=R.ext0 H.ext;refine Ax (Aa (Aq (Av (Ag (Ae U U (Ad U U (Ab (Aa (Ag (Ae U U (Ap U U ?_)))))))))));refine Ae U U (AX R1 U Bf Be U U (by omega) (by omega) (by rfl) ?_);refine AY U BR U ((R1.fld hy U (j:=0) U)) ?_;refine BQ U U U (Ab (Aa (Ay _ U ?_ ?_)))
   ·intro h2;replace h2:=AG h2;refine Ag (Ae U U (Ad U U (Ab (Aa (A9 (AB (Am (Am (AB (Am (AF (v:=(.int _ _)) U U U ?_)))))))))));exact ⟨congrArg (Value.int .i64) (by rw [OW (by rw [hy,h2]) hb]; rfl),H.ext⟩
   ·intro h2;replace h2:=AH h2;refine Ax (A3 (Aa (Aw (Ao U U U (by omega) (by omega) ?_))));refine Ae U U (Ab (Aa ?_));refine ⟨i+1,rfl,⟨rfl,trivial⟩,⟨by omega,H,fun k z hk hz=>?_⟩,by omega⟩
    rcases Nat.lt_or_ge k i with h3 | h3
    ·exact hb k z h3 hz
    ·obtain rfl:k=i:=by omega
     rw [hy] at hz; cases hz;exact fun h=>h2 h.symm
  ·intro h1;replace h1:=AH h1;refine Bc (Aj (Aj (AD (Aa (Ag (Ad U U (Ab (Aa (A9 (AF (v:=(.int _ _)) U U U ?_))))))))));exact ⟨congrArg (Value.int .i64) (by rw [OX fun k y hk=>hb k y (by have:=CO hk; omega) hk]; rfl),H.ext⟩
/-- What was paid of a due, of how much, and the code. -/
def Ia (r:Rnd) (x:Int):Int × Int × Int:=if Bw r=true then (match PX r.ids x with | some i=>(r.fl.getD i 0,(r.es.getD i e0).cap,0) | none=>(0,0,4)) else (0,0,1)
abbrev tri (p:Int × Int × Int):Value := .tuple #[.int .i64 p.1,.int .i64 p.2.1,.int .i64 p.2.2]
set_option maxRecDepth 20000 in
theorem Nt (r:Rnd) (q:RSl) (x:Int) (w:World) (RA:RAt w r q) (hEc:r.es.length≤q.cE) (hr:RBnd r):Ret Tryz.prog 39 #[.agg (A8 r q).toArray,.int .u64 x] w fun v w'=>v=tri (Ia r x)∧Ext [] w w':=by
 obtain ⟨w0,rfl⟩:∃ w0,w0=w:=⟨_,rfl⟩;have H:=Ctx.start w0 [];have hfl:=hr.fl;obtain ⟨wr,hwr⟩:∃ wr,wr=Bw r:=⟨_,rfl⟩;refine A2 (fn:=Tryz.f39) Tryz.func39 U [.agg (A8 r q).toArray,.int .u64 x] U (by kernel_rfl) ?_;refine Ag (Bt U (A8 r q) (.agg _) U U H ?_);rintro b2 w - H;refine Ad U U (Ad U U (Ad U U (Ab (Aa (Aq (Ag (Bh U Cq BW U H at0 U (Al U MQ (FV r q _ (RA.ext0 H.ext) hEc hr) U ?_))))))));rintro v w ⟨rfl,hx9⟩;replace H:=H.call hx9;rw [← hwr];refine Bv U U (Ab (Aa (Ay _ U ?_ ?_)))
 ·intro h1;replace h1:=Bo h1;refine Ag (Ad U U (Ad U U (Ad U U (Ab (Aa (A9 (Am (CZ (v1:=(.int _ _)) (v2:=(.int _ _)) (v3:=(.int _ _)) U U U U U ?_))))))));have h1':Bw r=false:=by rw [← hwr]; simpa using h1
  exact ⟨by unfold Ia; rw [if_neg (by rw [h1']; decide)],H.ext⟩
 ·intro h1;replace h1:=Bp h1;have h1':Bw r=true:=by rw [← hwr]; simpa using h1
  have WW:=HZ h1';have hde:=WW.de;have hle:=WW.len;refine Ax (Aa (Ag (Ah U Dk U (AA U DS U H at0 U (Ae U U (Al U ca_97 (XX q.aI _ q.cI r.ids x _ (RA.I.ext0 H.ext) U hr.ids) U ?_))))));rintro v w ⟨rfl,hx14⟩;replace H:=H.call hx14;refine Ad U U (Ab (Aa (Aq ?_)));have hP:Ia r x=(match PX r.ids x with | some i=>(r.fl.getD i 0,(r.es.getD i e0).cap,0) | none=>(0,0,4)):=by unfold Ia; rw [if_pos h1']
  rw [hP]
  rcases hix:PX r.ids x with _ | i
  ·skip
   refine Ag (Ae U U (AO U U U (Ab (Aa (Dc U (Ag (Ad U U (Ad U U (Ad U U (Ab (Aa ?_)))))))))));refine A9 (Am (CZ (v1:=(.int _ _)) (v2:=(.int _ _)) (v3:=(.int _ _)) U U U U U ?_));exact ⟨rfl,H.ext⟩
  ·skip
   obtain ⟨hil,-⟩:=(List.findIdx?_eq_some_iff_getElem.1 hix);obtain ⟨e,he⟩:=AE (l:=r.es) (i:=i) (by omega);obtain ⟨y,hy⟩:=AE (l:=r.fl) (i:=i) (by omega);have RE:=RA.E;have RF:=RA.F;refine Ag (Ae U U (AO U U U ?_));rw [show decide (idxI (some i)<0)=false from decide_eq_false (by show ¬ ((i:Int)<0); omega)];refine Ab (Aa (EQ U (Ax (Aa (DQ (fun x=>x=_) B0 (by kernel_rfl) U ?_)))));refine A7 U CW U (A7 U DM U (Ce U BC U (by rintro _ rfl; exact H.drew) at0 U ?_));refine AN U U (BA (i:=(i:Int)) RF U AU Bz U U (by omega) (by omega) (by rfl) ?_);refine Ch U Bx U (by rintro _ rfl; exact (((RF.ext0 H.drew.ext).fld hy rfl (j:=0) rfl))) ?_;refine A7 U C4 U (A7 U BD U (Ce U C5 U (by rintro _ rfl; exact H.drew) at0 U ?_));refine AN U U (BA (i:=(i:Int)) RE U BO B3 U U (by omega) (by omega) (by rfl) ?_)
   refine A7 U CD U (Ch U Bx U (by rintro _ rfl; exact (((RE.ext0 H.drew.ext).fld he rfl (j:=2) rfl))) ?_);refine Cm U U (Cm U U (Cm U U (Ca ?_)));rintro _ rfl;replace H:=H.drew;refine A9 (CZ (v1:=(.int _ _)) (v2:=(.int _ _)) (v3:=(.int _ _)) U U U U U ?_);exact ⟨by dsimp only; rw [Bn he,Bn hy],H.ext⟩
set_option maxRecDepth 20000 in
theorem XY (r:Rnd) (q:RSl) (x:Int) (w:World) (RA:RAt w r q) (hEc:r.es.length≤q.cE) (hr:RBnd r):Ret Tryz.prog 40 #[.agg (A8 r q).toArray,.int .u64 x] w fun v w'=>v=tri (Ia r x)∧Ext [] w w':=by
 obtain ⟨w0,rfl⟩:∃ w0,w0=w:=⟨_,rfl⟩;have H:=Ctx.start w0 [];have hfl:=hr.fl;have hil:=hr.ids;obtain ⟨wr,hwr⟩:∃ wr,wr=Bw r:=⟨_,rfl⟩;refine A2 (fn:=Tryz.f40) Tryz.func40 U [.agg (A8 r q).toArray,.int .u64 x] U (by kernel_rfl) ?_;refine Ag (Bt U (A8 r q) (.agg _) U U H ?_);rintro b2 w - H;refine Ad U U (Ad U U (Ad U U (Ab (Aa (Aq (Ag (Bh U Cq BW U H at0 U (Al U Oo (G9 r q _ (RA.ext0 H.ext) hEc hr) U ?_))))))));rintro v w ⟨rfl,hx9⟩;replace H:=H.call hx9;rw [← hwr];refine Bv U U (Ab (Aa (Ay _ U ?_ ?_)))
 ·intro h1;replace h1:=Bo h1;refine Ag (Ad U U (Ad U U (Ad U U (Ab (Aa (A9 (Am (CZ (v1:=(.int _ _)) (v2:=(.int _ _)) (v3:=(.int _ _)) U U U U U ?_))))))));have h1':Bw r=false:=by rw [← hwr]; simpa using h1
  exact ⟨by unfold Ia; rw [if_neg (by rw [h1']; decide)],H.ext⟩
 ·intro h1;replace h1:=Bp h1;have h1':Bw r=true:=by rw [← hwr]; simpa using h1
  have WW:=HZ h1';have hde:=WW.de;have hle:=WW.len;have hP:Ia r x=(match PX r.ids x with | some i=>(r.fl.getD i 0,(r.es.getD i e0).cap,0) | none=>(0,0,4)):=by unfold Ia; rw [if_pos h1']
  rw [hP];have RI:=RA.I;have RE:=RA.E;have RF:=RA.F;refine Ax (Aa (Aq (Ag (Ad U U (Ab (Aa (Av (Bd 274877905136 (α:=Nat) (fun i=>[(7,.int .i64 (i:Int))]) (fun i w'=>(i≤r.ids.length∧∀ (k:Nat) (y:Int),k<i→r.ids[k]? = some y→y≠x)∧Ctx w0 [] w' [(b2,Bl 33 (A8 r q))]) (fun i=>r.ids.length - i) 0 U ?_ ?_ ?_))))))))
  ·exact ⟨rfl,trivial⟩
  ·exact ⟨⟨Nat.zero_le _,fun j e h=>absurd h (Nat.not_lt_zero _)⟩,H⟩
  ·clear H;rintro i j w ⟨⟨hi,hb⟩,H⟩;refine Aq (Ag (Ae U U (Ah U Dk U (AA U DS U H at0 U (AV U Bf U (AO U U U (Ab (Aa (Ay _ U ?_ ?_)))))))))
   ·intro h2;replace h2:=AG h2;obtain ⟨z,hz⟩:=AE (l:=r.ids) (i:=i) (by omega);obtain ⟨e,he⟩:=AE (l:=r.es) (i:=i) (by omega);obtain ⟨y,hy⟩:=AE (l:=r.fl) (i:=i) (by omega);refine Ax (Aa (Aq (Av (Ag (Ah U Dk U (AA U DS U H at0 U (Ae U U (AX RI U Bf Be U U (by omega) (by omega) (by rfl) ?_))))))));refine AY U BR U (((RI.ext0 H.ext).fld hz U (j:=0) U)) ?_;refine Ae U U (BQ U U U (Ab (Aa (Ay _ U ?_ ?_))))
    ·intro h3;replace h3:=AG h3;refine DQ (fun x=>x=_) B0 (by kernel_rfl) U ?_;refine A7 U CW U (A7 U DM U (Ce U BC U (by rintro _ rfl; exact H.drew) at0 U ?_));refine AN U U (BA RF U AU Bz U U (by omega) (by omega) (by rfl) ?_);refine Ch U Bx U (by rintro _ rfl; exact (((RF.ext0 H.drew.ext).fld hy rfl (j:=0) rfl))) ?_;refine A7 U C4 U (A7 U BD U (Ce U C5 U (by rintro _ rfl; exact H.drew) at0 U ?_));refine AN U U (BA RE U BO B3 U U (by omega) (by omega) (by rfl) ?_);refine A7 U CD U (Ch U Bx U (by rintro _ rfl; exact (((RE.ext0 H.drew.ext).fld he rfl (j:=2) rfl))) ?_);refine Cm U U (Cm U U (Cm U U (Ca ?_)));rintro _ rfl;replace H:=H.drew;refine A9 (AB (Am (Am (AB (Am (CZ (v1:=(.int _ _)) (v2:=(.int _ _)) (v3:=(.int _ _)) U U U U U ?_))))));exact ⟨by rw [OW (by rw [hz,h3]) hb]; dsimp only; rw [Bn he,Bn hy],H.ext⟩
    ·intro h3;replace h3:=AH h3;refine Ax (A3 (Aa (Aw (Ae U U (Ao U U U (by omega) (by omega) ?_)))));refine Ad U U (Ab (Aa ?_));refine ⟨i+1,rfl,⟨rfl,trivial⟩,⟨⟨by omega,fun k y' hk hy'=>?_⟩,H⟩,by omega⟩
     rcases Nat.lt_or_ge k i with h5 | h5
     ·exact hb k y' h5 hy'
     ·obtain rfl:k=i:=by omega
      rw [hz] at hy'; cases hy';exact h3
   ·intro h2;replace h2:=AH h2;refine Bc (Aj (Aj (AD (Aa (Ag (Ad U U (Ad U U (Ad U U (Ab (Aa (A9 (CZ (v1:=(.int _ _)) (v2:=(.int _ _)) (v3:=(.int _ _)) U U U U U ?_))))))))))));exact ⟨by rw [OX fun k y hk=>hb k y (by have:=CO hk; omega) hk],H.ext⟩
end Go.Proofs.YtapphbmlkdhnmaaGreat

/- What a right round says of a bank, and what it is worth. -/
namespace Go.Proofs.YtapphbmlkdhnmaaGreat
open Go.GV
attribute [local irreducible] AC W Wq Wt

/-- A sum over the first dues. -/
def F2 (r:Rnd) (f:Ed→Int→Int) (n:Nat):Int:=B7 (fun i=>f (r.es.getD i e0) (r.fl.getD i 0)) n
theorem Ib {r:Rnd} {f:Ed→Int→Int} {i:Nat} {e:Ed} {x:Int} (he:r.es[i]? = some e) (hx:r.fl[i]? = some x):F2 r f (i+1)=F2 r f i+f e x:=by
 unfold F2;show _+f (r.es.getD i e0) (r.fl.getD i 0)=_;rw [Bn he,Bn hx]
def EP:Nat→List Nat
 | 3=>[2] | 4=>[2,3] | 6=>[2,3,4,5] | 7=>[2,3,4,5,6] | 9=>[8] | 10=>[8,9] | 12=>[8,9,10,11] | 13=>[8,9,10,11,12]
 | 14=>[1,2,3,4,5,6,7,8,9,10,11,12,13] | 15=>[0,1,2,3,4,5,6,7,8,9,10,11,12,13,14] | 16=>[0,1,2,3,4,5,6,7,8,9,10,11,12,13,14,15]
 | _=>[]
def Aeo (fid:FuncId) (cl:List Value) (b2:Nat) (r:Rnd) (q:RSl) (i:Nat) (e:Ed) (x s y:Int):Nat→Value
 | 0 => .int .i64 s | 1 => .func (.func fid) #[] cl.toArray | 2 => .pointer (some ⟨b2,4,none⟩) | 3 => .pointer (some ⟨b2,5,none⟩) | 4 => .slice q.aE r.es.length q.cE
 | 5 => .int .i64 (i:Int) | 6 => .pointer (some ⟨(adr q.aE).block,(adr q.aE).off+i*4,none⟩) | 7 => .agg (Br e).toArray | 8 => .pointer (some ⟨b2,6,none⟩) | 9 => .pointer (some ⟨b2,6,none⟩)
 | 10 => .slice q.aF r.fl.length q.cF | 11 => .int .i64 (i:Int) | 12 => .pointer (some ⟨(adr q.aF).block,(adr q.aF).off+i*1,none⟩) | 13 => .int .i64 x | 14 => .int .i64 y
 | _ => .int .i64 (s+y)
set_option maxRecDepth 20000 in
theorem Nu (r:Rnd) (q:RSl) (fid:FuncId) (cl:List Value) (f:Ed→Int→Int) (w:World) (RA:RAt w r q) (hr:RBnd r) (hde:r.ids.length≤r.es.length) (hle:r.fl.length=r.es.length) (hfc:Az Tryz.prog fid=true)
  (hf:∀ (i:Nat) (e:Ed) (x:Int) (w':World),i<r.ids.length→r.es[i]? = some e→r.fl[i]? = some x→Ext [] w w'→Ret Tryz.prog fid (.agg (Br e).toArray :: .int .i64 x::cl).toArray w' fun v w''=>v = .int .i64 (f e x)∧Ext [] w' w'')
  (hB:∀ k,k≤r.ids.length → -4611686018427387904≤F2 r f k∧F2 r f k≤4611686018427387904) :
  Ret Tryz.prog 100 #[.agg (A8 r q).toArray,.func (.func fid) #[] cl.toArray] w fun v w'=>v = .int .i64 (F2 r f r.ids.length)∧Ext [] w w':=by
 obtain ⟨w0,rfl⟩:∃ w0,w0=w:=⟨_,rfl⟩;have H:=Ctx.start w0 [];have hfl:=hr.fl;have hil:=hr.ids;refine A2 (fn:=Tryz.f100) Tryz.func100 U [.agg (A8 r q).toArray,.func (.func fid) #[] cl.toArray] U (by kernel_rfl) ?_;have RE:=RA.E;have RF:=RA.F;refine Ag (Bt U (A8 r q) (.agg _) U U H ?_);rintro b2 w - H;refine Ad U U (Ab (Aa (Aq (Ag (Ah U Dk U (AA U DS U H at0 U (AV U Bf U (Ae U U (Ab (Aa (Av ?_)))))))))));refine Bd 536870448 (α:=Nat) (fun i=>[(9,.int .i64 (i:Int)),(4,.int .i64 (F2 r f i))]) (fun i w'=>i≤r.ids.length∧Ctx w0 [] w' [(b2,Bl 33 (A8 r q))]) (fun i=>r.ids.length - i) 0 U ?_ ?_ ?_
 ·exact ⟨rfl,rfl,trivial⟩
 ·exact ⟨Nat.zero_le _,H⟩
 ·clear H;rintro i j w ⟨hi,H⟩;refine Ag (AO U U U (Ab (Aa (Aq (Ay _ U ?_ ?_)))))
  ·intro h1;replace h1:=AG h1;obtain ⟨e,he⟩:=AE (l:=r.es) (i:=i) (by omega);obtain ⟨x,hxx⟩:=AE (l:=r.fl) (i:=i) (by omega);have hst:=Ib (f:=f) he hxx;have hb1:=hB i (by omega);have hb2:=hB (i+1) (by omega);rw [hst] at hb2;obtain ⟨s,hs⟩:∃ s,s=F2 r f i:=⟨_,rfl⟩;obtain ⟨y,hy⟩:∃ y,y=f e x:=⟨_,rfl⟩;rw [← hs,← hy] at hb2 hst;rw [← hs] at hb1 ⊢;refine Ax (Aa (Aq (Av (Ag (Ae U U (Ad U U (Ab (Aa (J2 268431376 (α:=Unit) (fun _=>[(4,.int .i64 (s+y))]) (fun _ w'=>Ctx w0 [] w' [(b2,Bl 33 (A8 r q))]) U ?_ ?_)))))))))
   ·skip
    have hb2:=H.get at0;refine YW (n:=16) (anc:=EP) (fun i=>12+i) (Aeo fid cl b2 r q i e x s y) (show Tryz.prog.follows .mixedOrders=true by kernel_rfl) U (by kernel_rfl) ?_ (fun i j _ _ h=>by have h:12+i=12+j:=h; omega) ?_ ?_
    ·intro k hk;have:k=0∨k=1∨k=2∨k=3∨k=4∨k=5∨k=6∨k=7∨k=8∨k=9∨k=10∨k=11∨k=12∨k=13∨k=14∨k=15:=by omega
     simp [EP];omega
    ·intro m o e' w' hm ho hold hsl hx;have hin:∀ t:Nat,t<12→∀ j,j<16→t≠12+j:=fun t ht j hj=>by omega
     have g1:e'.g 1 = .func (.func fid) #[] cl.toArray:=(hold 1 (hin 1 (by omega))).trans rfl;have g2:e'.g 2=ptr b2:=(hold 2 (hin 2 (by omega))).trans rfl;have g4:e'.g 4 = .int .i64 s:=(hold 4 (hin 4 (by omega))).trans rfl;have g5:e'.g 5 = .int .i64 (i:Int):=(hold 5 (hin 5 (by omega))).trans rfl;have hx0:Ext [] w w':=(Ext.drew [] w).trans hx;have hc:w'.heap[b2]? = some (Bl 33 (A8 r q)):=hx0.to hb2 (by simp);have hcs:m=0∨m=1∨m=2∨m=3∨m=4∨m=5∨m=6∨m=7∨m=8∨m=9∨m=10∨m=11∨m=12∨m=13∨m=14∨m=15:=by omega
     rcases hcs with rfl | rfl | rfl | rfl | rfl | rfl | rfl | rfl | rfl | rfl | rfl | rfl | rfl | rfl | rfl | rfl
     ·cases Option.some.inj ho;exact BP U _ g4 (Ab ⟨.refl _ _,rfl⟩)
     ·cases Option.some.inj ho;exact BP U _ g1 (Ab ⟨.refl _ _,rfl⟩)
     ·cases Option.some.inj ho;exact Ah (off:=4) U (by kernel_rfl) g2 (Ab ⟨.refl _ _,rfl⟩)
     ·cases Option.some.inj ho;exact Ah (off:=1) U (by kernel_rfl) (hsl 2 (by simp [EP])) (Ab ⟨.refl _ _,rfl⟩)
     ·cases Option.some.inj ho;exact AY U C5 (hsl 3 (by simp [EP])) (by rw [Au hc]; rfl) (Ab ⟨.refl _ _,rfl⟩)
     ·cases Option.some.inj ho;exact BP U _ g5 (Ab ⟨.refl _ _,rfl⟩)
     ·cases Option.some.inj ho;exact AX RE U BO B3 (hsl 4 (by simp [EP])) (hsl 5 (by simp [EP])) (by omega) (by omega) U (Ab ⟨.refl _ _,rfl⟩)
     ·cases Option.some.inj ho;exact Cd (Br e) U DT B3 (hsl 6 (by simp [EP])) U ((RE.ext0 (H.ext.trans hx0)).row he U) (Ab ⟨.refl _ _,rfl⟩)
     ·cases Option.some.inj ho;exact Ah (off:=6) U (by kernel_rfl) g2 (Ab ⟨.refl _ _,rfl⟩)
     ·cases Option.some.inj ho;exact Ah (off:=0) U (by kernel_rfl) (hsl 8 (by simp [EP])) (Ab ⟨.refl _ _,rfl⟩)
     ·cases Option.some.inj ho;exact AY U BC (hsl 9 (by simp [EP])) (by rw [Au hc]; rfl) (Ab ⟨.refl _ _,rfl⟩)
     ·cases Option.some.inj ho;exact BP U _ g5 (Ab ⟨.refl _ _,rfl⟩)
     ·cases Option.some.inj ho;exact AX RF U AU Bz (hsl 10 (by simp [EP])) (hsl 11 (by simp [EP])) (by omega) (by omega) U (Ab ⟨.refl _ _,rfl⟩)
     ·cases Option.some.inj ho;exact AY U Bx (hsl 12 (by simp [EP])) ((RF.ext0 (H.ext.trans hx0)).fld hxx U (j:=0) U) (Ab ⟨.refl _ _,rfl⟩)
     ·cases Option.some.inj ho;refine C0 U (hsl 1 (by simp [EP])) hfc (hf i e x _ (by omega) he hxx (H.ext.trans hx0)) ?_ ?_
      ·show [e'.g 19,e'.g 25]++cl=_;rw [show e'.g 19 = .agg (Br e).toArray from hsl 7 (by simp [EP]),show e'.g 25 = .int .i64 x from hsl 13 (by simp [EP])];rfl
      ·rintro v w2 ⟨rfl,h2⟩;rw [← hy];exact Ab ⟨h2,rfl⟩
     ·cases Option.some.inj ho;exact Ao U (hsl 0 (by simp [EP])) (hsl 14 (by simp [EP])) (by omega) (by omega) (Ab ⟨.refl _ _,rfl⟩)
    ·intro o e' w' ho hds hold hsl hx;cases Option.some.inj ho;refine Cj U _ (hsl 15 (by omega)) (Ab ?_);exact ⟨rfl,(),hds,⟨CH _ _ _,trivial⟩,H.call ((Ext.drew [] w).trans hx)⟩
   ·rintro - j4 w H;refine A3 (Aa (Aw (Ao U U U (by omega) (by omega) ?_)));refine Ae U U (Ab (Aa ?_));exact ⟨i+1,rfl,⟨rfl,congrArg (Value.int .i64) hst.symm,trivial⟩,⟨by omega,H⟩,by omega⟩
  ·intro h1;replace h1:=AH h1;obtain rfl:i=r.ids.length:=by omega
   refine Bc (Aj (Aj (AD (Aa (Ag (Ae U U (Ad U U (Ab (Aa (A9 (AF (v:=(.int _ _)) U U U ?_)))))))))));exact ⟨rfl,H.ext⟩
def toF (k:Int) (e:Ed) (x:Int):Int:=if e.t=k then x else 0
def frF (k:Int) (e:Ed) (x:Int):Int:=if e.f=k then x else 0
def woF (e:Ed) (x:Int):Int := -e.cost*x
theorem U3 (b:Bool) (x:Int) (w:World):Ret Tryz.prog 99 #[.bool b,.int .i64 x] w fun v w'=>v = .int .i64 (if b=true then x else 0)∧Ext [] w w':=by
 refine A2 (fn:=Tryz.f99) Tryz.func99 U [.bool b,.int .i64 x] U (by kernel_rfl) ?_;refine Ag (Ad U U (Ab (Aa (Aq (Ag (Ak U U (Ab (Aa (Ay _ U ?_ ?_)))))))))
 ·intro h1;refine Ag (Ae U U (Ad U U (Ab (Aa (A9 (Am (AF (v:=(.int _ _)) U U U ?_)))))));exact ⟨by rw [if_pos h1],Ext.refl _ _⟩
 ·intro h1;refine Ax (Aa (Ag (Ad U U (Ab (Aa (A9 (AF (v:=(.int _ _)) U U U ?_)))))));exact ⟨by rw [if_neg (by rw [h1]; decide)],Ext.refl _ _⟩
theorem XZ (k:Int) (e:Ed) (x:Int) (b7 b3:Nat) (w:World) (h7:w.heap[b7]? = some (Bl 157 [.func (.func 99) #[] #[]])) (h3:w.heap[b3]? = some (Bl 3 [.int .i64 k])) :
  Ret Tryz.prog 101 #[.agg (Br e).toArray,.int .i64 x,ptr b7,ptr b3] w fun v w'=>v = .int .i64 (toF k e x)∧Ext [] w w':=by
 obtain ⟨w0,rfl⟩:∃ w0,w0=w:=⟨_,rfl⟩;have H:=Ctx.start w0 [];refine A2 (fn:=Tryz.f101) Tryz.func101 U [.agg (Br e).toArray,.int .i64 x,.pointer (some ⟨b7,0,none⟩),.pointer (some ⟨b3,0,none⟩)] U (by kernel_rfl) ?_;refine Ag (Bt U (Br e) (.agg _) U U H ?_);rintro b4 w - H;refine Ad U U (Ab (Aa (Ag (AY U Wx U ((by rw [Au (H.ext.to h7 (by simp))]; rfl)) ?_))));refine Ah U Dl U (AA U BG U H at0 U (AY U BG U ((by rw [Au (H.ext.to h3 (by simp))]; rfl)) ?_));refine BQ U U U (Ae U U (C0 U U Aav (U3 (decide (e.t=k)) x _) U ?_));rintro v w ⟨rfl,hx13⟩;replace H:=H.call hx13;refine Ad U U (Ab (Aa (A9 (AF (v:=(.int _ _)) U U U ?_))));exact ⟨congrArg (Value.int .i64) (by unfold toF; by_cases h:e.t=k <;> simp [h]),H.ext⟩
theorem Ya (k:Int) (e:Ed) (x:Int) (b7 b3:Nat) (w:World) (h7:w.heap[b7]? = some (Bl 157 [.func (.func 99) #[] #[]])) (h3:w.heap[b3]? = some (Bl 3 [.int .i64 k])) :
  Ret Tryz.prog 102 #[.agg (Br e).toArray,.int .i64 x,ptr b7,ptr b3] w fun v w'=>v = .int .i64 (frF k e x)∧Ext [] w w':=by
 obtain ⟨w0,rfl⟩:∃ w0,w0=w:=⟨_,rfl⟩;have H:=Ctx.start w0 [];refine A2 (fn:=Tryz.f102) Tryz.func102 U [.agg (Br e).toArray,.int .i64 x,.pointer (some ⟨b7,0,none⟩),.pointer (some ⟨b3,0,none⟩)] U (by kernel_rfl) ?_;refine Ag (Bt U (Br e) (.agg _) U U H ?_);rintro b4 w - H;refine Ad U U (Ab (Aa (Ag (AY U Wx U ((by rw [Au (H.ext.to h7 (by simp))]; rfl)) ?_))));refine Ah U CX U (AA U BG U H at0 U (AY U BG U ((by rw [Au (H.ext.to h3 (by simp))]; rfl)) ?_));refine BQ U U U (Ae U U (C0 U U Aav (U3 (decide (e.f=k)) x _) U ?_));rintro v w ⟨rfl,hx13⟩;replace H:=H.call hx13;refine Ad U U (Ab (Aa (A9 (AF (v:=(.int _ _)) U U U ?_))));exact ⟨congrArg (Value.int .i64) (by unfold frF; by_cases h:e.f=k <;> simp [h]),H.ext⟩
theorem VB (e:Ed) (x:Int) (w:World) (h1 : -9223372036854775808≤e.cost*x∧e.cost*x≤9223372036854775807) (h2 : -1000≤e.cost∧e.cost≤1000) (h3 : -9223372036854775808≤woF e x∧woF e x≤9223372036854775807) :
  Ret Tryz.prog 103 #[.agg (Br e).toArray,.int .i64 x] w fun v w'=>v = .int .i64 (woF e x)∧Ext [] w w':=by
 obtain ⟨w0,rfl⟩:∃ w0,w0=w:=⟨_,rfl⟩;have H:=Ctx.start w0 [];unfold woF at h3;refine A2 (fn:=Tryz.f103) Tryz.func103 U [.agg (Br e).toArray,.int .i64 x] U (by kernel_rfl) ?_;refine Ag (Bt U (Br e) (.agg _) U U H ?_);rintro b2 w - H;refine Ad U U (Ab (Aa (Ag (Ah U De U (AA U Bx U H at0 U (EJ U U (by omega) (by omega) ?_))))));refine Ae U U (Cn U U U (by omega) (by omega) ?_);refine Ad U U (Ab (Aa (A9 (AF (v:=(.int _ _)) U U U ?_))));exact ⟨rfl,H.ext⟩
/-- Flows are small, and so are sums of them. -/
theorem RK {r:Rnd} (W:WR r) {i:Nat} {x:Int} (hx:r.fl[i]? = some x):0≤x∧x≤4503599627370496:=by
 have hl:=CO hx;obtain ⟨e,he⟩:=AE (l:=r.es) (i:=i) (by rw [← W.len]; exact hl);have h1:=(BN W.wi).2.2 i e x he hx;have h2:=CY ((Cb (BN W.wi).2.1).2.2.2.1 e (List.mem_of_getElem? he));omega
theorem Jl {r:Rnd} (W:WR r) {f:Ed→Int→Int} (hf:∀ e x,f e x=x∨f e x=0):∀ k,k≤r.ids.length→0≤F2 r f k∧F2 r f k≤4503599627370496*(k:Int)
 | 0,_=>by
  have:F2 r f 0=0:=rfl;rw [this]; omega
 | k+1,hk=>by
  have ih:=Jl W hf k (by omega);have h1:=W.de;have h2:=W.len;obtain ⟨e,he⟩:=AE (l:=r.es) (i:=k) (by omega);obtain ⟨x,hx⟩:=AE (l:=r.fl) (i:=k) (by omega);have h3:=RK W hx;rw [Ib he hx]
  rcases hf e x with h | h <;> rw [h] <;> omega
theorem Yb (k:Int) (e:Ed) (x:Int):toF k e x=x∨toF k e x=0:=by
 unfold toF
 split
 ·exact .inl U
 ·exact .inr U
theorem Yc (k:Int) (e:Ed) (x:Int):frF k e x=x∨frF k e x=0:=by
 unfold frF
 split
 ·exact .inl U
 ·exact .inr U
theorem Mg (e:Ed) (x:Int):woF e x = -(x*e.cost):=by unfold woF; rw [Int.neg_mul,Int.mul_comm]
theorem T1 (r:Rnd) (k:Nat):F2 r woF k = -B7 (fun i=>flE r.fl i*(grE r.N r.es).co i) k:=by
 unfold F2;rw [← Mb];exact CA fun i _=>Mg _ _
def Ic (r:Rnd) (k:Int):Int × Int × Int:=if Bw r=true then (if 0≤k∧k<r.N - 1 then (F2 r (toF k) r.ids.length,F2 r (frF k) r.ids.length,0) else (0,0,10)) else (0,0,1)
set_option maxRecDepth 20000 in
set_option maxHeartbeats 2000000 in
theorem Nv (r:Rnd) (q:RSl) (k:Int) (w:World) (RA:RAt w r q) (hEc:r.es.length≤q.cE) (hr:RBnd r):Ret Tryz.prog 42 #[.agg (A8 r q).toArray,.int .i64 k] w fun v w'=>v=tri (Ic r k)∧Ext [] w w':=by
 obtain ⟨w0,rfl⟩:∃ w0,w0=w:=⟨_,rfl⟩;have H:=Ctx.start w0 [];obtain ⟨wr,hwr⟩:∃ wr,wr=Bw r:=⟨_,rfl⟩;refine A2 (fn:=Tryz.f42) Tryz.func42 U [.agg (A8 r q).toArray,.int .i64 k] U (by kernel_rfl) ?_;refine Ag (Bt U (A8 r q) (.agg _) U U H ?_);rintro b2 w - H;refine Bt U _ (.int _ _) U U H ?_;rintro b3 w - H;refine Ad U U (Ad U U (Ad U U (Ab (Aa (Aq (Av (Ag (Bh U Cq BW U H at1 U (Al U MQ (FV r q _ (RA.ext0 H.ext) hEc hr) U ?_)))))))));rintro v w ⟨rfl,hx10⟩;replace H:=H.call hx10;rw [← hwr];refine Bv U U (Ai U U (Ab (Aa (Ay _ U ?_ ?_))))
 ·intro h1;replace h1:=Bo h1;refine Ag (Ad U U (Ad U U (Ad U U (Ab (Aa (A9 (AB (Am (CZ (v1:=(.int _ _)) (v2:=(.int _ _)) (v3:=(.int _ _)) U U U U U ?_)))))))));have h1':Bw r=false:=by rw [← hwr]; simpa using h1
  exact ⟨by unfold Ic; rw [if_neg (by rw [h1']; decide)],H.ext⟩
 ·intro h1;replace h1:=Bp h1;have h1':Bw r=true:=by rw [← hwr]; simpa using h1
  have WW:=HZ h1';have hN1:=WW.N1;have hN17:=WW.N17;have hP:Ic r k=if 0≤k∧k<r.N - 1 then (F2 r (toF k) r.ids.length,F2 r (frF k) r.ids.length,0) else (0,0,10):=by unfold Ic; rw [if_pos h1']
  rw [hP];refine Aq (Ag (AA U BG U H at0 U (AO U U U (Ai U U (Ab (Aa (Ds 12 U ?_ ?_)))))))
  ·intro h2;replace h2:=AG h2;refine Ax (Aa (Dc U (Ag (Ad U U (Ad U U (Ad U U (Ab (Aa (A9 (AB (Am (CZ (v1:=(.int _ _)) (v2:=(.int _ _)) (v3:=(.int _ _)) U U U U U ?_))))))))))));exact ⟨by rw [if_neg (by omega)],H.ext⟩
  ·intro h2;replace h2:=AH h2;have HG:Ctx w0 [] w [(b3,Bl 3 [.int .i64 k]),(b2,Bl 33 (A8 r q))]:=H;have hb2:=HG.get at1;have hb3:=HG.get at0;obtain ⟨w1,rfl⟩:∃ z,z=w:=⟨_,rfl⟩;clear H;have H:=Ctx.start w1 [];refine EG [([0,1],2),([3],4)] (fun z=>Ext [] w1 z) [] B0 (by kernel_rfl) (Ext.drew [] w1) ?_;refine AL U U ?_;refine BM U BG U (fun _ hx=>(by rw [Au (hx.to hb3 (by simp))]; rfl)) ?_;refine Fb _ U Cq BW U U (fun _ hx=>(BU (b:=b2) (t:=33) (l:=A8 r q) (hx.to hb2 (by simp)) 0 (A8 r q) rfl)) ?_;refine Bu ?_;replace H:=H.drew;refine Al U IC (Gw r q _ (by omega)) U ?_;rintro v w ⟨rfl,hx17⟩;replace H:=H.call hx17;refine Ab (BH (H.ext) (AL U U ?_));refine t_geq U U U (Bu (Ai U U (Ab (BH (H.ext) (BS (Aa (Ds 12 U ?_ ?_)))))))
   ·intro h3;replace h3:=AG h3;refine Ag (Ad U U (Ad U U (Ad U U (Ab (Aa (A9 (AB (Am (CZ (v1:=(.int _ _)) (v2:=(.int _ _)) (v3:=(.int _ _)) U U U U U ?_)))))))));exact ⟨by rw [if_neg (by omega)],HG.ext.trans H.ext⟩
   ·intro h3;replace h3:=AH h3;rw [if_pos (by omega)];replace H:=HG.call H.ext;refine Ax (A3 (Aa (Ag (Bs U Ad0 H ?_))));rintro b7 w - H;refine BX (.func _ _ _) U Adt U U U H at0 (by decide) ?_;rintro w H;refine Ab (Aa (Ag (Bh U Cq BW U H at2 U (C9 U [.pointer _,.pointer _] U (Al U S8 (Nu r q 101 [ptr b7,ptr b3] (toF k) _ (RA.ext0 H.ext) hr WW.de WW.len Abk (fun i e x w' _ _ _ hx=>XZ k e x b7 b3 w' (hx.to (H.get at0) (by simp)) (hx.to (H.get at1) (by simp))) (fun j hj=>by have:=Jl WW (Yb k) j hj; have:=WW.d64; omega)) U ?_)))));rintro v w ⟨rfl,hx21⟩;replace H:=H.call hx21
    refine Ad U U (Ab (Aa (Ag (Bh U Cq BW U H at2 U (C9 U [.pointer _,.pointer _] U (Al U S8 (Nu r q 102 [ptr b7,ptr b3] (frF k) _ (RA.ext0 H.ext) hr WW.de WW.len Abl (fun i e x w' _ _ _ hx=>Ya k e x b7 b3 w' (hx.to (H.get at0) (by simp)) (hx.to (H.get at1) (by simp))) (fun j hj=>by have:=Jl WW (Yc k) j hj; have:=WW.d64; omega)) U ?_))))));rintro v w ⟨rfl,hx24⟩;replace H:=H.call hx24;refine Ad U U (Ab (Aa (Ag (Ae U U (Ae U U (Ad U U (Ad U U (Ad U U (Ab (Aa (A9 (CZ (v1:=(.int _ _)) (v2:=(.int _ _)) (v3:=(.int _ _)) U U U U U ?_))))))))))));exact ⟨rfl,H.ext⟩
set_option maxRecDepth 20000 in
set_option maxHeartbeats 2000000 in
theorem Yd (r:Rnd) (q:RSl) (k:Int) (w:World) (RA:RAt w r q) (hEc:r.es.length≤q.cE) (hr:RBnd r):Ret Tryz.prog 43 #[.agg (A8 r q).toArray,.int .i64 k] w fun v w'=>v=tri (Ic r k)∧Ext [] w w':=by
 obtain ⟨w0,rfl⟩:∃ w0,w0=w:=⟨_,rfl⟩;have H:=Ctx.start w0 [];have hil:=hr.ids;obtain ⟨wr,hwr⟩:∃ wr,wr=Bw r:=⟨_,rfl⟩;refine A2 (fn:=Tryz.f43) Tryz.func43 U [.agg (A8 r q).toArray,.int .i64 k] U (by kernel_rfl) ?_;refine Ag (Bt U (A8 r q) (.agg _) U U H ?_);rintro b2 w - H;refine Ad U U (Ad U U (Ad U U (Ab (Aa (Aq (Ag (Bh U Cq BW U H at0 U (Al U Oo (G9 r q _ (RA.ext0 H.ext) hEc hr) U ?_))))))));rintro v w ⟨rfl,hx11⟩;replace H:=H.call hx11;rw [← hwr];refine Bv U U (Ab (Aa (Ay _ U ?_ ?_)))
 ·intro h1;replace h1:=Bo h1;refine Ag (Ad U U (Ad U U (Ad U U (Ab (Aa (A9 (Am (CZ (v1:=(.int _ _)) (v2:=(.int _ _)) (v3:=(.int _ _)) U U U U U ?_))))))));have h1':Bw r=false:=by rw [← hwr]; simpa using h1
  exact ⟨by unfold Ic; rw [if_neg (by rw [h1']; decide)],H.ext⟩
 ·intro h1;replace h1:=Bp h1;have h1':Bw r=true:=by rw [← hwr]; simpa using h1
  have WW:=HZ h1';have hN1:=WW.N1;have hN17:=WW.N17;have hde:=WW.de;have hle:=WW.len;have hd64:=WW.d64;have hP:Ic r k=if 0≤k∧k<r.N - 1 then (F2 r (toF k) r.ids.length,F2 r (frF k) r.ids.length,0) else (0,0,10):=by unfold Ic; rw [if_pos h1']
  rw [hP];have RE:=RA.E;have RF:=RA.F;refine Ax (Aa (Aq (Ag (B5 (α:=Unit) 8380416 (fun _=>[(22,.bool (!(decide (0≤k) && decide (k<r.N - 1))))]) (fun _ w'=>Ctx w0 [] w' [(b2,Bl 33 (A8 r q))]) U ?_ ?_))))
  ·refine Ae U U (AO U U U (Ak U U (A4 15 U ?_ ?_)))
   ·intro h1;replace h1:=AG h1;refine Af U (Af U (Af U (Af U (Af U (Af U (An U U (.bool _) U (Ab ?_)))))));exact ⟨rfl,(),rfl,⟨congrArg Value.bool (by rw [Bool.eq_iff_iff]; simp_all; done),trivial⟩,H⟩
   ·intro h2;replace h2:=AH h2;refine Ae U U (Ah U C4 U (Ah U Dj U (AA U BG U H at0 U (Bg U U U (by omega) (by omega) ?_))));refine CQ U U U (A1 U U (.bool _) U (Ab ?_));exact ⟨rfl,(),rfl,⟨congrArg Value.bool (by rw [Bool.eq_iff_iff]; simp_all; done),trivial⟩,H⟩
  rintro - j22 w H;refine Ay _ U ?_ ?_
  ·intro h2;replace h2:=Bo h2;refine Ag (Ad U U (Ad U U (Ad U U (Ab (Aa (A9 (Am (CZ (v1:=(.int _ _)) (v2:=(.int _ _)) (v3:=(.int _ _)) U U U U U ?_))))))));exact ⟨by rw [if_neg (fun h=>by rw [decide_eq_true h.1,decide_eq_true h.2] at h2; cases h2)],H.ext⟩
  ·intro h2;replace h2:=Bp h2;rw [Bool.and_eq_true,decide_eq_true_eq,decide_eq_true_eq] at h2;rw [if_pos h2];refine Ax (Aa (Ag (Ad U U (Ab (Aa (Ag (Ad U U (Ab (Aa (Aq (Ag (Ad U U ?_))))))))))));refine Ab (Aa (Av (Bd 18446744073701163904 (α:=Nat) (fun i=>[(9,.int .i64 (i:Int)),(7,.int .i64 (F2 r (toF k) i)),(8,.int .i64 (F2 r (frF k) i))]) (fun i w'=>i≤r.ids.length∧Ctx w0 [] w' [(b2,Bl 33 (A8 r q))]) (fun i=>r.ids.length - i) 0 U ?_ ?_ ?_)))
   ·exact ⟨rfl,rfl,rfl,trivial⟩
   ·exact ⟨Nat.zero_le _,H⟩
   ·clear H;rintro i j w ⟨hi,H⟩;refine Aq (Ag (Ae U U (Ah U Dk U (AA U DS U H at0 U (AV U Bf U (AO U U U (Ab (Aa (Ay _ U ?_ ?_)))))))))
    ·intro h3;replace h3:=AG h3;obtain ⟨e,he⟩:=AE (l:=r.es) (i:=i) (by omega);obtain ⟨x,hxx⟩:=AE (l:=r.fl) (i:=i) (by omega);have hs1:=Ib (f:=toF k) he hxx;have hs2:=Ib (f:=frF k) he hxx;have hb1:=Jl WW (Yb k) i hi;have hb2:=Jl WW (Yc k) i hi;have hfx:=RK WW hxx;obtain ⟨s,hs⟩:∃ s,s=F2 r (toF k) i:=⟨_,rfl⟩;obtain ⟨t,ht⟩:∃ t,t=F2 r (frF k) i:=⟨_,rfl⟩;rw [← hs] at hs1 hb1 ⊢;rw [← ht] at hs2 hb2 ⊢;refine Ax (Aa (Aq (Av (Aq (Ag (Ah U C4 U (Ah U BD U (AA U C5 U H at0 U (Ae U U (AX RE U BO B3 U U (by omega) (by omega) (by rfl) ?_))))))))));refine Ah U Dl U (AY U BG U (((RE.ext0 H.ext).fld he U (j:=1) U)) ?_);refine Ae U U (BQ U U U (Ab (Aa (Eo 140187732541568 (α:=Unit) (fun _=>[(7,.int .i64 (s+toF k e x))]) (fun _ w'=>w'=w) U ?_ ?_))))
     ·skip
      refine Ay _ U ?_ ?_
      ·intro h4;replace h4:=AG h4;refine Aw (Ae U U (Ah U CW U (Ah U DM U (AA U BC U H at0 U (Ae U U (AX RF U AU Bz U U (by omega) (by omega) (by rfl) ?_))))));refine AY U Bx U (((RF.ext0 H.ext).fld hxx U (j:=0) U)) ?_;refine Ao U U U (by omega) (by omega) ?_;refine Ad U U (Ab (Aa ?_));exact ⟨(),rfl,⟨congrArg (Value.int .i64) (by unfold toF; rw [if_pos h4]),trivial⟩,rfl⟩
      ·intro h4;replace h4:=AH h4;refine Ax (Aa ?_);exact ⟨(),rfl,⟨congrArg (Value.int .i64) (by unfold toF; rw [if_neg h4,Int.add_zero]),trivial⟩,rfl⟩
     ·rintro - j38 w rfl;refine Ag (Ah U C4 U (Ah U BD U (AA U C5 U H at0 U (Ae U U (AX RE U BO B3 U U (by omega) (by omega) (by rfl) ?_)))));refine Ah U CX U (AY U BG U (((RE.ext0 H.ext).fld he U (j:=0) U)) ?_);refine Ae U U (BQ U U U (Ab (Aa (Ay _ U ?_ ?_))))
      ·intro h4;replace h4:=AG h4;refine Aw (Ae U U (Ah U CW U (Ah U DM U (AA U BC U H at0 U (Ae U U (AX RF U AU Bz U U (by omega) (by omega) (by rfl) ?_))))));refine AY U Bx U (((RF.ext0 H.ext).fld hxx U (j:=0) U)) ?_;refine Ao U U U (by omega) (by omega) ?_;refine Ad U U (Ab (A3 (Aa (Aw (Ae U U (Ao U U U (by omega) (by omega) ?_))))));refine Ad U U (Ab (Aa ?_));exact ⟨i+1,rfl,⟨rfl,congrArg (Value.int .i64) hs1.symm,congrArg (Value.int .i64) (by rw [hs2]; unfold frF; rw [if_pos h4]),trivial⟩,⟨by omega,H⟩,by omega⟩
      ·intro h4;replace h4:=AH h4;refine Ax (A3 (Aa (Aw (Ae U U (Ao U U U (by omega) (by omega) ?_)))));refine Ad U U (Ab (Aa ?_));exact ⟨i+1,rfl,⟨rfl,congrArg (Value.int .i64) hs1.symm,congrArg (Value.int .i64) (by rw [hs2]; unfold frF; rw [if_neg h4,Int.add_zero]),trivial⟩,⟨by omega,H⟩,by omega⟩
    ·intro h3;replace h3:=AH h3;obtain rfl:i=r.ids.length:=by omega
     refine Bc (Aj (Aj (AD (Aa (Ag (Ae U U (Ae U U (Ad U U (Ad U U (Ad U U (Ab (Aa (A9 (CZ (v1:=(.int _ _)) (v2:=(.int _ _)) (v3:=(.int _ _)) U U U U U ?_))))))))))))));exact ⟨rfl,H.ext⟩
def FW (r:Rnd):Int × Int:=if Bw r=true then (F2 r woF r.ids.length,0) else (0,1)
theorem Nw {r:Rnd} (W:WR r) {k:Nat} (hk:k≤r.ids.length) : -4611686018427387904≤F2 r woF k∧F2 r woF k≤4611686018427387904:=by
 have:=ZK W.wi (k:=k) (by have:=W.de; omega);rw [T1];omega
theorem Ye {r:Rnd} (W:WR r) {i:Nat} {e:Ed} (hi:i<r.ids.length) (he:r.es[i]? = some e) : -1000≤e.cost∧e.cost≤1000:=by
 have:=PW (W.due i e hi he);omega
set_option maxRecDepth 20000 in
theorem OY (r:Rnd) (q:RSl) (w:World) (RA:RAt w r q) (hEc:r.es.length≤q.cE) (hr:RBnd r):Ret Tryz.prog 44 #[.agg (A8 r q).toArray] w fun v w'=>v = .tuple #[.int .i64 (FW r).1,.int .i64 (FW r).2]∧Ext [] w w':=by
 obtain ⟨w0,rfl⟩:∃ w0,w0=w:=⟨_,rfl⟩;have H:=Ctx.start w0 [];obtain ⟨wr,hwr⟩:∃ wr,wr=Bw r:=⟨_,rfl⟩;refine A2 (fn:=Tryz.f44) Tryz.func44 U [.agg (A8 r q).toArray] U (by kernel_rfl) ?_;refine Ag (Bt U (A8 r q) (.agg _) U U H ?_);rintro b1 w - H;refine Ad U U (Ad U U (Ab (Aa (Aq (Ag (Bh U Cq BW U H at0 U (Al U MQ (FV r q _ (RA.ext0 H.ext) hEc hr) U ?_)))))));rintro v w ⟨rfl,hx5⟩;replace H:=H.call hx5;rw [← hwr];refine Bv U U (Ab (Aa (Ay _ U ?_ ?_)))
 ·intro h1;replace h1:=Bo h1;refine Ag (Ad U U (Ad U U (Ab (Aa (A9 (Am (DG (v1:=(.int _ _)) (v2:=(.int _ _)) U U U U ?_)))))));have h1':Bw r=false:=by rw [← hwr]; simpa using h1
  exact ⟨by unfold FW; rw [if_neg (by rw [h1']; decide)],H.ext⟩
 ·intro h1;replace h1:=Bp h1;have h1':Bw r=true:=by rw [← hwr]; simpa using h1
  have WW:=HZ h1';have hP:FW r=(F2 r woF r.ids.length,0):=by unfold FW; rw [if_pos h1']
  rw [hP];refine Ax (Aa (Ag (Bh U Cq BW U H at0 U (Al U S8 (Nu r q 103 [] woF _ (RA.ext0 H.ext) hr WW.de WW.len Abm (fun i e x w' hi he hxx _=>VB e x w' (by have:=PV WW.wi he hxx; omega) (Ye WW hi he) (by rw [Mg,Int.mul_comm]; have:=PV WW.wi he hxx; omega)) (fun j hj=>Nw WW hj)) U ?_))));rintro v w ⟨rfl,hx8⟩;replace H:=H.call hx8;refine Ad U U (Ad U U (Ab (Aa (A9 (DG (v1:=(.int _ _)) (v2:=(.int _ _)) U U U U ?_)))));exact ⟨rfl,H.ext⟩
set_option maxRecDepth 20000 in
theorem VC (r:Rnd) (q:RSl) (w:World) (RA:RAt w r q) (hEc:r.es.length≤q.cE) (hr:RBnd r):Ret Tryz.prog 45 #[.agg (A8 r q).toArray] w fun v w'=>v = .tuple #[.int .i64 (FW r).1,.int .i64 (FW r).2]∧Ext [] w w':=by
 obtain ⟨w0,rfl⟩:∃ w0,w0=w:=⟨_,rfl⟩;have H:=Ctx.start w0 [];have hil:=hr.ids;obtain ⟨wr,hwr⟩:∃ wr,wr=Bw r:=⟨_,rfl⟩;refine A2 (fn:=Tryz.f45) Tryz.func45 U [.agg (A8 r q).toArray] U (by kernel_rfl) ?_;refine Ag (Bt U (A8 r q) (.agg _) U U H ?_);rintro b1 w - H;refine Ad U U (Ad U U (Ab (Aa (Aq (Ag (Bh U Cq BW U H at0 U (Al U Oo (G9 r q _ (RA.ext0 H.ext) hEc hr) U ?_)))))));rintro v w ⟨rfl,hx7⟩;replace H:=H.call hx7;rw [← hwr];refine Bv U U (Ab (Aa (Ay _ U ?_ ?_)))
 ·intro h1;replace h1:=Bo h1;refine Ag (Ad U U (Ad U U (Ab (Aa (A9 (Am (DG (v1:=(.int _ _)) (v2:=(.int _ _)) U U U U ?_)))))));have h1':Bw r=false:=by rw [← hwr]; simpa using h1
  exact ⟨by unfold FW; rw [if_neg (by rw [h1']; decide)],H.ext⟩
 ·intro h1;replace h1:=Bp h1;have h1':Bw r=true:=by rw [← hwr]; simpa using h1
  have WW:=HZ h1';have hde:=WW.de;have hle:=WW.len;have hP:FW r=(F2 r woF r.ids.length,0):=by unfold FW; rw [if_pos h1']
  rw [hP];have RE:=RA.E;have RF:=RA.F;refine Ax (Aa (Ag (Ad U U (Ab (Aa (Aq (Ag (Ad U U (Ab (Aa (Av (Bd 4294966832 (α:=Nat) (fun i=>[(5,.int .i64 (i:Int)),(4,.int .i64 (F2 r woF i))]) (fun i w'=>i≤r.ids.length∧Ctx w0 [] w' [(b1,Bl 33 (A8 r q))]) (fun i=>r.ids.length - i) 0 U ?_ ?_ ?_))))))))))))
  ·exact ⟨rfl,rfl,trivial⟩
  ·exact ⟨Nat.zero_le _,H⟩
  ·clear H;rintro i j w ⟨hi,H⟩;refine Aq (Ag (Ae U U (Ah U Dk U (AA U DS U H at0 U (AV U Bf U (AO U U U (Ab (Aa (Ay _ U ?_ ?_)))))))))
   ·intro h3;replace h3:=AG h3;obtain ⟨e,he⟩:=AE (l:=r.es) (i:=i) (by omega);obtain ⟨x,hxx⟩:=AE (l:=r.fl) (i:=i) (by omega);have hs1:=Ib (f:=woF) he hxx;have hb1:=Nw WW hi;have hb2:=Nw WW (k:=i+1) (by omega);have htm:=PV WW.wi he hxx;rw [Int.mul_comm] at htm;rw [hs1,Mg] at hb2;rw [Mg] at hs1;obtain ⟨s,hs⟩:∃ s,s=F2 r woF i:=⟨_,rfl⟩;rw [← hs] at hs1 hb1 hb2 ⊢;refine Ax (Aa (Aq (Av (Pq (fun x=>x=_) B0 (by kernel_rfl) U ?_))));refine AN U U (A7 U CW U (A7 U DM U (Ce U BC U (by rintro _ rfl; exact H.drew) at0 U ?_)));refine AN U U (BA RF U AU Bz U U (by omega) (by omega) (by rfl) ?_);refine Ch U Bx U (by rintro _ rfl; exact (((RF.ext0 H.drew.ext).fld hxx rfl (j:=0) rfl))) ?_;refine A7 U C4 U (A7 U BD U (Ce U C5 U (by rintro _ rfl; exact H.drew) at0 U ?_));refine AN U U (BA RE U BO B3 U U (by omega) (by omega) (by rfl) ?_)
    refine A7 U De U (Ch U Bx U (by rintro _ rfl; exact (((RE.ext0 H.drew.ext).fld he rfl (j:=3) rfl))) ?_);refine NY U U U (by omega) (by omega) ?_;refine Dg U U U (by omega) (by omega) ?_;refine Cm U U (Ca ?_);rintro _ rfl;replace H:=H.drew;refine A3 (Aa (Aw (Ae U U (Ao U U U (by omega) (by omega) ?_))));refine Ad U U (Ab (Aa ?_));exact ⟨i+1,rfl,⟨rfl,congrArg (Value.int .i64) (by rw [hs1]; omega),trivial⟩,⟨by omega,H⟩,by omega⟩
   ·intro h3;replace h3:=AH h3;obtain rfl:i=r.ids.length:=by omega
    refine Bc (Aj (Aj (AD (Aa (Ag (Ae U U (Ad U U (Ad U U (Ab (Aa (A9 (DG (v1:=(.int _ _)) (v2:=(.int _ _)) U U U U ?_))))))))))));exact ⟨rfl,H.ext⟩
end Go.Proofs.YtapphbmlkdhnmaaGreat

/- The plain law of the sum of 32 bits: what is turned within 32 bits in a row is seen. -/
namespace Go.Proofs.YtapphbmlkdhnmaaGreat

def Nx:BitVec 32:=0xedb88320#32
def Jm (w:BitVec 32):BitVec 32:=(w >>> 1) ^^^ (if w.getLsbD 0 then Nx else 0#32)
def ZO (x:BitVec 32):BitVec 32:=if x.getLsbD 31 then ((x ^^^ Nx) <<< 1) ||| 1#32 else x <<< 1
def CR:Nat→BitVec 32→BitVec 32
 | 0,w=>w
 | n+1,w=>CR n (Jm w)
def RL:Nat→BitVec 32→BitVec 32
 | 0,w=>w
 | n+1,w=>ZO (RL n w)
def Em (c:UInt8):BitVec 32:=BitVec.ofNat 32 c.toNat
def GZ (w:BitVec 32) (c:UInt8):BitVec 32:=CR 8 (w ^^^ Em c)
def Yf (s:BitVec 32) (l:List UInt8):BitVec 32 := ~~~ (l.foldl GZ (~~~ s))
def PY (l:List UInt8):BitVec 32:=Yf 0#32 l

theorem Yg (a b:BitVec 32):Jm (a ^^^ b)=Jm a ^^^ Jm b:=by
 unfold Jm;rw [BitVec.getLsbD_xor,BitVec.ushiftRight_xor_distrib];cases a.getLsbD 0 <;> cases b.getLsbD 0 <;> simp only [Bool.xor_false,Bool.xor_true,Bool.not_true,Bool.not_false,if_true,Bool.false_eq_true,if_false,BitVec.xor_zero]
 ·ac_rfl
 ·ac_rfl
 ·rw [show a >>> 1 ^^^ Nx ^^^ (b >>> 1 ^^^ Nx)=a >>> 1 ^^^ b >>> 1 ^^^ (Nx ^^^ Nx) by ac_rfl,BitVec.xor_self,BitVec.xor_zero]
theorem Lp:∀ (n:Nat) (a b:BitVec 32),CR n (a ^^^ b)=CR n a ^^^ CR n b
 | 0,_,_=>rfl
 | n+1,a,b=>by simp only [CR]; rw [Yg,Lp n]
theorem GA:∀ (m n:Nat) (w:BitVec 32),CR n (CR m w)=CR (m+n) w
 | 0,n,w=>by simp [CR]
 | m+1,n,w=>by rw [Nat.succ_add]; simp only [CR]; exact GA m n _
theorem VD:Em 0=0#32:=rfl
def xorL:List UInt8→List UInt8→List UInt8
 | a::l,b::m=>(a ^^^ b)::xorL l m
 | _,_=>[]
theorem take_zero (w:BitVec 32):GZ w 0=CR 8 w:=by rw [GZ,VD,BitVec.xor_zero]
theorem OZ:∀ (n:Nat) (w:BitVec 32),(∀ i,i<n→w.getLsbD i=false)→CR n w=w >>> n
 | 0,w,_=>by simp [CR]
 | n+1,w,h=>by
  have h0:Jm w=w >>> 1:=by
   unfold Jm; rw [h 0 (by omega)]; simp
  simp only [CR];rw [h0,OZ n (w >>> 1) (fun i hi=>by rw [BitVec.getLsbD_ushiftRight]; exact h _ (by omega)),← BitVec.shiftRight_add,Nat.add_comm 1 n]
theorem PZ (c:UInt8) (n:Nat) (hn:n≤24):CR n (Em c <<< n)=Em c:=by
 rw [OZ n _ (fun i hi=>by simp [BitVec.getLsbD_shiftLeft,hi])];have hc:c.toNat<256:=c.toNat_lt;apply BitVec.eq_of_toNat_eq;unfold Em;rw [BitVec.toNat_ushiftRight,BitVec.toNat_shiftLeft,BitVec.toNat_ofNat,Nat.mod_eq_of_lt (by omega:c.toNat<2 ^ 32),Nat.shiftLeft_eq]
 have h1:c.toNat*2 ^ n<2 ^ 32:=by
  have h2:2 ^ n≤2 ^ 24:=Nat.pow_le_pow_right (by omega) hn
  calc c.toNat*2 ^ n≤255*2 ^ 24:=Nat.mul_le_mul (by omega) h2
   _<2 ^ 32:=by decide
 rw [Nat.mod_eq_of_lt h1,Nat.shiftRight_eq_div_pow,Nat.mul_div_cancel _ (Nat.two_pow_pos n)]

/-- A word's four bytes. -/
def Aa4 (a b c d:UInt8):BitVec 32:=Em a ^^^ (Em b <<< 8) ^^^ (Em c <<< 16) ^^^ (Em d <<< 24)
theorem four (w:BitVec 32) (a b c d:UInt8):[a,b,c,d].foldl GZ w=CR 32 (w ^^^ Aa4 a b c d):=by
 have ha:CR 32 (Em a)=CR 32 (Em a):=rfl
 have hb:CR 24 (Em b)=CR 32 (Em b <<< 8):=by
  rw [← GA 8 24,PZ b 8 (by omega)]
 have hc:CR 16 (Em c)=CR 32 (Em c <<< 16):=by
  rw [← GA 16 16,PZ c 16 (by omega)]
 have hd:CR 8 (Em d)=CR 32 (Em d <<< 24):=by
  rw [← GA 24 8,PZ d 24 (by omega)]
 simp only [List.foldl_cons,List.foldl_nil,GZ,Lp,GA];rw [hb,hc,hd,show 8+(8+(8+8))=32 from rfl];simp only [Aa4,Lp]
 ac_rfl
def burstB (o v:Nat):Bool:=(RL 32 (BitVec.ofNat 32 v)).toNat % 2 ^ o == 0
end Go.Proofs.YtapphbmlkdhnmaaGreat

/- The sums of crc and of its reference. -/
namespace Go.Proofs.YtapphbmlkdhnmaaGreat
open Go.GV
attribute [local irreducible] AC W Wq



theorem Gb (b:UInt8):b.toNat<256:=b.toNat_lt
theorem Gc (w:BitVec 32):w.toNat<4294967296:=w.isLt
theorem U4 (s:BitVec 32):4294967295 ^^^ s.toNat=(~~~s).toNat:=by
 rw [← BitVec.allOnes_xor,BitVec.toNat_xor,BitVec.toNat_allOnes]
theorem Yh (c:UInt8):(Em c).toNat=c.toNat:=by
 have:=Gb c;unfold Em;rw [BitVec.toNat_ofNat,Nat.mod_eq_of_lt (by omega)]
theorem Aa5 (w:BitVec 32) (c:UInt8):w.toNat ^^^ c.toNat=(w ^^^ Em c).toNat:=by
 rw [BitVec.toNat_xor,Yh]
theorem ZP (w:BitVec 32):w.getLsbD 0=decide (w.toNat % 2=1):=by
 rw [BitVec.getLsbD,Nat.testBit_zero]
theorem RM (w:BitVec 32):(w.toNat / 2) ^^^ (if w.toNat % 2=1 then 3988292384 else 0)=(Jm w).toNat:=by
 unfold Jm;rw [BitVec.toNat_xor,BitVec.toNat_ushiftRight,Nat.shiftRight_eq_div_pow,ZP]
 by_cases h:w.toNat % 2=1
 ·simp [h,Nx]
 ·simp [h]
theorem VE (w:BitVec 32):(w.toNat / 2 ^ 1) ^^^ ((3988292384*(w.toNat &&& 1)) % 4294967296)=(Jm w).toNat:=by
 rw [← RM,Nat.and_one_is_mod]
 by_cases h:w.toNat % 2=1
 ·simp [h]
 ·have h0:w.toNat % 2=0:=by omega
  simp [h0]
theorem Ny (n:Nat) (w:BitVec 32):Jm (CR n w)=CR (n+1) w:=by
 rw [← GA n 1]; rfl

theorem ZQ (s:BitVec 32) (a:Option Addr) (c:Nat) (l:List UInt8) (w:World) (R:Rd w a 1 B8 l) (hm:l.length≤9223372036854775807) :
  Ret Tryz.prog 149 #[.int .u32 (s.toNat:Int),.slice a l.length c] w fun v w'=>v = .int .u32 ((Yf s l).toNat:Int)∧w=w':=by
 have hs:=Gc s;refine A2 (fn:=Tryz.f149) Tryz.func149 U [.int .u32 (s.toNat:Int),.slice a l.length c] U (by kernel_rfl) ?_;refine Ag (Ad U U (Ab (Aa (Ag (Ae U U (Ip U U (by omega) ?_))))));rw [U4];refine Ad U U (Ab (Aa (Aq (Ag (Ap U U (AV U C6 U (Ae U U (Ab (Aa (Av (Bd 1073737888 (α:=Nat) (fun k=>[(12,.int .i64 k),(5,.int .u32 (((l.take k).foldl GZ (~~~s)).toNat:Int))]) (fun k w'=>k≤l.length∧w=w') (fun k=>l.length - k) 0 U ?_ ?_ ?_)))))))))))
 ·exact ⟨rfl,rfl,trivial⟩
 ·exact ⟨Nat.zero_le _,rfl⟩
 ·rintro k j _ ⟨hk,rfl⟩;refine Ag (AO U U U (Ab (Aa (Aq (Ay _ U ?_ ?_)))))
  ·intro h1;replace h1:=AG h1;obtain ⟨x,hx⟩:=AE (l:=l) (i:=k) (by omega);have hxb:=Gb x;have hw:=Gc ((l.take k).foldl GZ (~~~s));generalize hv:(l.take k).foldl GZ (~~~s)=v at hw;refine Ax (Aa (Aq (Av (Ag (AX R U C6 FO U U (by omega) (by omega) (by rfl) ?_)))));refine AY U Wy U (R.one (f:=bv) hx) ?_;refine Ad U U (Ab (Aa (Ag (Ae U U (Ae U U (IM U U Gj L5 (by omega) (by omega) ?_))))));refine Io U U U (by omega) (by omega) ?_;rw [Aa5];refine Ad U U (Ab (Aa (Ag (Ae U U (Ab (Aa (Av (Bd 535822368 (α:=Nat) (fun i=>[(20,.int .i64 i),(5,.int .u32 ((CR i (v ^^^ Em x)).toNat:Int))]) (fun i w'=>i≤8∧w=w') (fun i=>8 - i) 0 U ?_ ?_ ?_))))))))
   ·exact ⟨rfl,rfl,trivial⟩
   ·exact ⟨Nat.zero_le _,rfl⟩
   ·rintro i j _ ⟨hi,rfl⟩;have hu:=Gc (CR i (v ^^^ Em x));generalize hz:CR i (v ^^^ Em x)=z at hu;refine Ag (AO U U U (Ab (Aa (Aq (Ay _ U ?_ ?_)))))
    ·intro h2;replace h2:=AG h2;refine Ax (Aa (Aq (Av (Aw (Ae U U (GH (n:=1) U U U (by omega) ?_))))));refine Ae U U (Sv (b:=1) U U U (by omega) (by omega) ?_);refine Qy (a:=3988292384) U U U ?_;refine Io U U U (by omega) (by omega) ?_;rw [VE];refine Ad U U (Ab (A3 (Aa (Aw (Ao U U U (by omega) (by omega) ?_)))));refine Ae U U (Ab (Aa ?_));exact ⟨i+1,rfl,⟨rfl,by rw [← Ny,hz]; rfl,trivial⟩,⟨by omega,rfl⟩,by omega⟩
    ·intro h2;replace h2:=AH h2;have hi8:i=8:=by omega
     subst hi8;refine Bc (Aj (Aj (AD (A3 (Aa (Aw (Ao U U U (by omega) (by omega) ?_)))))));refine Ae U U (Ab (Aa ?_));refine ⟨k+1,rfl,⟨rfl,?_,trivial⟩,⟨by omega,rfl⟩,by omega⟩;rw [D5 hx,List.foldl_append,hv,List.foldl_cons,List.foldl_nil,GZ,hz]; rfl
  ·intro h1;replace h1:=AH h1;have hke:k=l.length:=by omega
   subst hke;rw [List.take_length];have hw:=Gc (l.foldl GZ (~~~s));refine Bc (Aj (Aj (AD (Aa (Ag (Ae U U (Ip U U (by omega) ?_)))))));rw [U4];refine Ad U U (Ab (Aa (A9 (AF (v:=(.int _ _)) U U U ?_))));exact ⟨rfl,rfl⟩

theorem Yi (a:Option Addr) (c n:Nat) (l:List UInt8) (w:World) (R:Rd w a 1 B8 l) (hn:l.length=n) (hm:n≤9223372036854775807) :
  Ret Tryz.prog 88 #[.slice a n c] w fun v w'=>v = .int .u32 ((PY l).toNat:Int)∧w=w':=by
 subst hn;refine A2 (fn:=Tryz.f88) Tryz.func88 U [.slice a l.length c] U (by kernel_rfl) ?_;refine Ag (Ad U U (Ab (Aa (Ag (Ap U U (Al U Ab7 (ZQ 0#32 a c l w R hm) U ?_))))));rintro v w ⟨rfl,rfl⟩;refine Ad U U (Ab (Aa (A9 (AF (v:=(.int _ _)) U U U ?_))));exact ⟨rfl,rfl⟩

/-- The number that bytes are, the least first. -/
def FR:List UInt8→Nat
 | []=>0
 | c::l=>c.toNat+256*FR l
theorem RN:∀ (l m:List UInt8),FR (l++m)=FR l+256 ^ l.length*FR m
 | [],m=>by simp [FR]
 | c::l,m=>by
  have h:=RN l m;simp only [List.cons_append,FR,List.length_cons,h,Nat.pow_succ];rw [Nat.mul_add,← Nat.mul_assoc,Nat.mul_comm (256 ^ l.length) 256]; omega
theorem Qa:∀ l:List UInt8,FR l<256 ^ l.length
 | []=>by simp [FR]
 | c::l=>by
  have h:=Qa l;have hc:=Gb c;simp only [FR,List.length_cons,Nat.pow_succ]; omega
theorem VF {l:List UInt8} {k:Nat} {c:UInt8} (hk:l[k]? = some c) (h4:k<4):FR (l.take k) ||| (c.toNat*2 ^ (8*k) % 4294967296)=FR (l.take (k+1)):=by
 have hl:=CO hk;have hlen:(l.take k).length=k:=by rw [List.length_take]; omega
 have h1:=Qa (l.take k);rw [hlen] at h1;have h2:(256:Nat) ^ k=2 ^ (8*k):=by rw [Nat.pow_mul]
 have hc:=Gb c
 have h3:c.toNat*2 ^ (8*k)<4294967296:=by
  have:k=0∨k=1∨k=2∨k=3:=by omega
  rcases this with h | h | h | h <;> subst h <;> omega
 rw [D5 hk,RN,hlen,Nat.mod_eq_of_lt h3,Nat.or_comm,Nat.mul_comm c.toNat,← Nat.two_pow_add_eq_or_of_lt (by rw [← h2]; exact h1),h2];simp only [FR,Nat.mul_zero,Nat.add_zero]; omega

def EZ (b:List UInt8):Bool:=decide (4≤b.length) && decide ((PY (b.take (b.length - 4))).toNat=FR (b.drop (b.length - 4)))

theorem RQ (a:Option Addr) (c:Nat) (l:List UInt8) (w:World) (R:Rd w a 1 B8 l) (hm:l.length≤9223372036854775807) (hc:l.length≤c) :
  Ret Tryz.prog 78 #[.slice a l.length c] w fun v w'=>v = .bool (EZ l)∧w=w':=by
 refine A2 (fn:=Tryz.f78) Tryz.func78 U [.slice a l.length c] U (by kernel_rfl) ?_;refine Ag (Ai U U (Ab (Aa (Ag (Ap U U (AV U C6 U (Bg U U U (by omega) (by omega) ?_)))))));refine Ad U U (Ab (Aa (Aq (Ag (Ae U U (AO U U U (Ab (Aa (Ay _ U ?_ ?_)))))))))
 ·intro h1;replace h1:=AG h1;refine Ag (Ai U U (Ab (Aa (A9 (Am (AF (v:=(.bool _)) U U U ?_))))));exact ⟨congrArg Value.bool (by rw [EZ,decide_eq_false (by omega)]; rfl),rfl⟩
 ·intro h1;replace h1:=AH h1;obtain ⟨m,hm4⟩:∃ m,l.length=m+4:=⟨l.length - 4,by omega⟩;rw [show (l.length:Int) - 4=(m:Int) by omega];have R':=R.cut m c hc;have hd:(l.drop m).length=4:=by rw [List.length_drop]; omega
  refine Ax (Aa (Ag (Ad U U (Ab (Aa (Aq (Ag (Ap U U (Ae U U (Fs U C6 FO U U (by omega) (by omega) ?_))))))))));refine AV U C6 U (Ae U U (Ab (Aa (Av ?_))));rw [show l.length - ((m:Int)).toNat=4 by omega];refine Bd 536805488 (α:=Nat) (fun k=>[(16,.int .i64 k),(4,.int .u32 (FR ((l.drop m).take k):Int))]) (fun k w'=>k≤4∧w=w') (fun k=>4 - k) 0 U ?_ ?_ ?_
  ·exact ⟨rfl,rfl,trivial⟩
  ·exact ⟨Nat.zero_le _,rfl⟩
  ·rintro k j _ ⟨hk,rfl⟩;refine Ag (AO U U U (Ab (Aa (Aq (Ay _ U ?_ ?_)))))
   ·intro h2;replace h2:=AG h2;obtain ⟨x,hx⟩:=AE (l:=l.drop m) (i:=k) (by omega);have hxb:=Gb x
    have hw:FR ((l.drop m).take k)<4294967296:=by
     have h:=Qa ((l.drop m).take k);have h2:256 ^ ((l.drop m).take k).length≤256 ^ 4:=Nat.pow_le_pow_right (by omega) (by rw [List.length_take]; omega);have h3:(256:Nat) ^ 4=4294967296:=by decide
     omega
    refine Ax (Aa (Aq (Av (Ag (Ae U U (AX R' U C6 FO U U (by omega) (by omega) (by omega) ?_))))));refine AY U Wy U (R'.one (f:=bv) hx) ?_;refine Ad U U (Ad U U (Ab (Aa (Aw (Ae U U (Ae U U (IM U U Gj L5 (by omega) (by omega) ?_)))))));refine Ae U U (Cn U U U (by omega) (by omega) ?_);rw [show (8:Int)*(k:Int)=((8*k:Nat):Int) from by simp];refine Sx U U U (by omega) ?_;refine UM U U U (by omega) (by omega) ?_;rw [VF hx (by omega)];refine Ad U U (Ab (A3 (Aa (Aw (Ao U U U (by omega) (by omega) ?_)))));refine Ae U U (Ab (Aa ?_));exact ⟨k+1,rfl,⟨rfl,rfl,trivial⟩,⟨by omega,rfl⟩,by omega⟩
   ·intro h2;replace h2:=AH h2;have hk4:k=4:=by omega
    subst hk4;rw [show (l.drop m).take 4=l.drop m from List.take_of_length_le (by omega)];refine Bc (Aj (Aj (AD (Aa (Ag (Ap U U (Ae U U (Gf U C6 FO U U (by omega) (by omega) ?_))))))));refine Al U Aau (Yi a c m (l.take m) w (R.take m) (by rw [List.length_take]; omega) (by omega)) U ?_;rintro v w ⟨rfl,rfl⟩;refine Ae U U (BQ U U U (Ai U U (Ab (Aa (A9 (AF (v:=(.bool _)) U U U ?_))))));refine ⟨congrArg Value.bool ?_,rfl⟩;rw [EZ,decide_eq_true (show 4≤l.length by omega),Bool.true_and,show l.length - 4=m by omega];exact decide_eq_decide.2 (by omega)

/-! ### The reference -/
theorem ZR (v0:BitVec 32) (x:UInt8) (w:World):Ret Tryz.prog 184 #[.int .u32 (v0.toNat:Int),bv x] w fun v w'=>v = .int .u32 ((GZ v0 x).toNat:Int)∧w=w':=by
 have hv0:=Gc v0;have hxb:=Gb x;refine A2 (fn:=Tryz.f184) Tryz.func184 U [.int .u32 (v0.toNat:Int),bv x] U (by kernel_rfl) ?_;refine Ag (Ad U U (Ab (Aa (Ag (Ae U U (Ae U U (IM U U Gj L5 (by omega) (by omega) ?_)))))));refine Io U U U (by omega) (by omega) ?_;rw [Aa5];refine Ad U U (Ab (Aa (Aq (Ag (Ad U U (Ab (Aa (Av (Bd 8386657 (α:=Nat) (fun i=>[(5,.int .i64 i),(0,.int .u32 ((CR i (v0 ^^^ Em x)).toNat:Int))]) (fun i w'=>i≤8∧w=w') (fun i=>8 - i) 0 U ?_ ?_ ?_)))))))))
 ·exact ⟨rfl,rfl,trivial⟩
 ·exact ⟨Nat.zero_le _,rfl⟩
 ·rintro i j _ ⟨hi,rfl⟩;have hu:=Gc (CR i (v0 ^^^ Em x));have hsn:=RM (CR i (v0 ^^^ Em x));have hss:=Ny i (v0 ^^^ Em x);generalize hz:CR i (v0 ^^^ Em x)=z at hu hsn hss;refine Aq (Ag (Ae U U (AO U U U (Ab (Aa (Ay _ U ?_ ?_))))))
  ·intro h1;replace h1:=AG h1;refine Ax (Aa (Aq (Av (Ag (Ae U U (Sp U U U (by omega) (by omega) ?_))))));refine BQ U U U (Ai U U (Ab (Aa (Ag (Ae U U (GF U U U (by omega) (by omega) (by show _≤(4294967295:Int); omega) ?_))))));rw [show (z.toNat:Int) / 2=((z.toNat / 2:Nat):Int) from by norm_cast];refine Ad U U (Ab (Aa (Ag (Ak U U (Ab (Aa (Ay _ U ?_ ?_)))))))
   ·intro h2;replace h2:=AG h2;rw [if_pos (by omega)] at hsn;refine Aw (Ae U U (Io (b:=3988292384) U U U (by omega) (by omega) ?_));refine Ad U U (Ab (A3 (Aa (Aw (Ae U U (Ao U U U (by omega) (by omega) ?_))))));refine Ad U U (Ab (Aa ?_));exact ⟨i+1,rfl,⟨rfl,by rw [← hss,← hsn]; rfl,trivial⟩,⟨by omega,rfl⟩,by omega⟩
   ·intro h2;replace h2:=AH h2;rw [if_neg (by omega),Nat.xor_zero] at hsn;refine Ax (A3 (Aa (Aw (Ae U U (Ao U U U (by omega) (by omega) ?_)))));refine Ad U U (Ab (Aa ?_));exact ⟨i+1,rfl,⟨rfl,by rw [← hss,← hsn]; rfl,trivial⟩,⟨by omega,rfl⟩,by omega⟩
  ·intro h1;replace h1:=AH h1;have hi8:i=8:=by omega
   subst hi8;refine Bc (Aj (Aj (AD (Aa (Ag (Ae U U (Ad U U (Ab (Aa (A9 (AF (v:=(.int _ _)) U U U ?_)))))))))));exact ⟨by rw [GZ,hz],rfl⟩

theorem Yj (s:BitVec 32) (a:Option Addr) (c:Nat) (l:List UInt8) (w:World) (R:Rd w a 1 B8 l) (hm:l.length≤9223372036854775807) :
  Ret Tryz.prog 151 #[.int .u32 (s.toNat:Int),.slice a l.length c] w fun v w'=>v = .int .u32 ((Yf s l).toNat:Int)∧w=w':=by
 have hs:=Gc s;refine A2 (fn:=Tryz.f151) Tryz.func151 U [.int .u32 (s.toNat:Int),.slice a l.length c] U (by kernel_rfl) ?_;refine Ag (Ad U U (Ab (Aa (Ag (Ae U U (Ip U U (by omega) ?_))))));rw [U4];refine Ad U U (Ab (Aa (Aq (Ag (Ad U U (Ab (Aa (Av (Bd 2096736 (α:=Nat) (fun k=>[(6,.int .i64 k),(5,.int .u32 (((l.take k).foldl GZ (~~~s)).toNat:Int))]) (fun k w'=>k≤l.length∧w=w') (fun k=>l.length - k) 0 U ?_ ?_ ?_)))))))))
 ·exact ⟨rfl,rfl,trivial⟩
 ·exact ⟨Nat.zero_le _,rfl⟩
 ·rintro k j _ ⟨hk,rfl⟩;refine Aq (Ag (Ae U U (Ap U U (AV U C6 U (AO U U U (Ab (Aa (Ay _ U ?_ ?_))))))))
  ·intro h1;replace h1:=AG h1;obtain ⟨x,hx⟩:=AE (l:=l) (i:=k) (by omega);refine Ax (Aa (Aq (Av (Aw (Ae U U (Ap U U (Ae U U (AX R U C6 FO U U (by omega) (by omega) (by rfl) ?_))))))));refine AY U Wy U (R.one (f:=bv) hx) ?_;refine Al U Acs (ZR ((l.take k).foldl GZ (~~~s)) x w) U ?_;rintro v w ⟨rfl,rfl⟩;refine Ad U U (Ab (A3 (Aa (Aw (Ae U U (Ao U U U (by omega) (by omega) ?_))))));refine Ad U U (Ab (Aa ?_));refine ⟨k+1,rfl,⟨rfl,?_,trivial⟩,⟨by omega,rfl⟩,by omega⟩;rw [D5 hx,List.foldl_append,List.foldl_cons,List.foldl_nil]; rfl
  ·intro h1;replace h1:=AH h1;have hke:k=l.length:=by omega
   subst hke;rw [List.take_length];have hw:=Gc (l.foldl GZ (~~~s));refine Bc (Aj (Aj (AD (Aa (Ag (Ae U U (Ip U U (by omega) ?_)))))));rw [U4];refine Ad U U (Ab (Aa (A9 (AF (v:=(.int _ _)) U U U ?_))));exact ⟨rfl,rfl⟩

theorem ZS (a:Option Addr) (c n:Nat) (l:List UInt8) (w:World) (R:Rd w a 1 B8 l) (hn:l.length=n) (hm:n≤9223372036854775807) :
  Ret Tryz.prog 91 #[.slice a n c] w fun v w'=>v = .int .u32 ((PY l).toNat:Int)∧w=w':=by
 subst hn;refine A2 (fn:=Tryz.f91) Tryz.func91 U [.slice a l.length c] U (by kernel_rfl) ?_;refine Ag (Ad U U (Ab (Aa (Ag (Ap U U (Al U Ab9 (Yj 0#32 a c l w R hm) U ?_))))));rintro v w ⟨rfl,rfl⟩;refine Ad U U (Ab (Aa (A9 (AF (v:=(.int _ _)) U U U ?_))));exact ⟨rfl,rfl⟩

end Go.Proofs.YtapphbmlkdhnmaaGreat

/- Numbers as bytes; copies of bytes. -/
namespace Go.Proofs.YtapphbmlkdhnmaaGreat
open Go.GV
attribute [local irreducible] AC W Wq

theorem Fresh.rdB {w w':World} {t:Nat} {s:Value} {xs:List UInt8} (h:Fresh w w' t 1 s (xs.map bv)):∃ a c,s = .slice a xs.length c∧Rd w' a 1 B8 xs∧xs.length≤c:=by
 obtain ⟨a,n,c,full,rfl,O,hb⟩:=h.ex;have hn:=O.num;subst hn;exact ⟨a,c,rfl,O.rd1 (t:=t) fun x hx=>(hb x hx).1,O.le⟩
theorem Rd.appB {w:World} {a:Option Addr} {l:List UInt8} (R:Rd w a 1 B8 l):∀ j v,(l.map bv)[j]? = some v→∃ p,a=some p∧w.cell? (p.add j)=some v:=Rd.app1 (f:=bv) R
theorem OS.rdB {w:World} {a:Option Addr} {n c:Nat} {t:TypeId} {full:List Value} {xs:List UInt8} (h:OS a n c 1 full (xs.map bv)) (hb:∀ x∈ent a t full,w.heap[x.1]? = some x.2):Rd w a 1 B8 xs:=OS.rd1 h hb

theorem Fresh.since {w0 w w':World} {t s:Nat} {v:Value} {l:List Value} (h:Fresh w w' t s v l) (hx:Ext [] w0 w):Fresh w0 w' t s v l :=
 ⟨let ⟨a,n,c,full,h1,h2,h3⟩:=h.ex; ⟨a,n,c,full,h1,h2,fun x hx'=>⟨(h3 x hx').1,Nat.le_trans hx.size (h3 x hx').2⟩⟩,hx.trans h.ext⟩

theorem Yk (a:Option Addr) (c n:Nat) (l:List UInt8) (w:World) (R:Rd w a 1 B8 l) (hn:l.length=n) (hm:n≤140737488351232) :
  Ret Tryz.prog 147 #[.slice a n c] w fun v w'=>Fresh w w' 5 1 v (l.map bv)∧(a=none→v = .slice none 0 0):=by
 subst hn;obtain ⟨w0,rfl⟩:∃ w0,w0=w:=⟨_,rfl⟩;have H:=Ctx.start w0 [];refine A2 (fn:=Tryz.f147) Tryz.func147 U [.slice a l.length c] U (by kernel_rfl) ?_;refine Ag (A5 U U (Ab (Aa (Aq (Ag (Ap U U (NW U C6 U (Ab (Aa (Ay _ U ?_ ?_))))))))))
 ·intro h1;have ha:a=none:=by simpa using h1
  subst ha
  have hl:l=[]:=by
   cases l with
   | nil=>rfl
   | cons x l=>obtain ⟨b,o,h⟩:=R.some' (by simp); cases h
  subst hl;refine Ag (A5 U U (Ab (Aa (A9 (Am (AF (v:=(.slice _ _ _)) U U U ?_))))));exact ⟨Fresh.nil H _ _,fun _=>rfl⟩
 ·intro h1;refine Ax (Aa (Ag (HC U C6 FO H ?_)));rintro b5 w H O;refine Ap U U (Dt U C6 C6 FO P0 IZ U (by decide) (l.map bv) U U H O (by simp) (Wd l) (Rd.appB (R.ext0 H.ext)) (by omega) ?_);rintro a7 c7 full7 w H O;refine A5 U U (Ab (Aa (A9 (AF (v:=(.slice _ _ _)) U U U ?_))));exact ⟨Ctx.fresh H (by simpa using O),fun h=>by subst h; cases h1⟩

/-! ### Sizes -/
def FN (k:Int):Bool:=decide (k=1) || (decide (k=2) || (decide (k=4) || decide (k=8)))
theorem Nz {k:Int} (h:FN k=true):∃ n:Nat,k=n∧1≤n∧n≤8:=by
 simp only [FN,Bool.or_eq_true,decide_eq_true_eq] at h;exact ⟨k.toNat,by omega,by omega,by omega⟩
theorem VG (k:Int):∃ z:Int,Option.getD (if k=8 then some (Value.int .i64 64) else if k=4 then some (Value.int .i64 32) else if k=2 then some (Value.int .i64 16) else if k=1 then some (Value.int .i64 8) else none) (Value.int .i64 0) = .int .i64 z∧decide (0<z)=FN k:=by
 by_cases h8:k=8
 ·exact ⟨64,by simp [h8],by simp [FN,h8]⟩
 by_cases h4:k=4
 ·exact ⟨32,by simp [h4],by simp [FN,h4]⟩
 by_cases h2:k=2
 ·exact ⟨16,by simp [h2],by simp [FN,h2]⟩
 by_cases h1:k=1
 ·exact ⟨8,by simp [h1],by simp [FN,h1]⟩
 exact ⟨0,by simp [h8,h4,h2,h1],by simp [FN,h8,h4,h2,h1]⟩
theorem Pa (k:Int) (w:World):Ret Tryz.prog 148 #[.int .i64 k] w fun v w'=>v = .bool (FN k)∧Ext [] w w':=by
 obtain ⟨w0,rfl⟩:∃ w0,w0=w:=⟨_,rfl⟩;have H:=Ctx.start w0 [];refine A2 (fn:=Tryz.f148) Tryz.func148 U [.int .i64 k] U (by kernel_rfl) ?_;refine Ag (Ai U U (Ab (Aa (Ag (M1 .i64 U H ?_)))));rintro b4 o4 w hM H;refine J0 (.int _ _) U MW Fy U U U H at0 hM ?_;rintro o w hM H;refine J0 (.int _ _) U MW Fy U U U H at0 hM ?_;rintro o w hM H;refine J0 (.int _ _) U MW Fy U U U H at0 hM ?_;rintro o w hM H;refine J0 (.int _ _) U MW Fy U U U H at0 hM ?_;rintro o w hM H;refine Q1 U U (Sz U U (Ab (Aa (Ag (Q1 U U (Ae U U (UK U MW Fy zv_3 U U H at0 hM ?_)))))));simp only [UJ,VZ];obtain ⟨z,hz,hzb⟩:=VG k;rw [hz];refine Ct U U U (Ai U U (Ab (Aa (A9 (AF (v:=(.bool _)) U U U ?_)))));exact ⟨congrArg Value.bool hzb,H.ext⟩
theorem U5 (k:Int) (w:World):Ret Tryz.prog 183 #[.int .i64 k] w fun v w'=>v = .bool (FN k)∧w=w':=by
 refine A2 (fn:=Tryz.f183) Tryz.func183 U [.int .i64 k] U (by kernel_rfl) ?_;refine Ag (Ai U U (Ab (Aa (Ag (Ae U U (BQ U U U (Ak U U (A4 5 U ?_ ?_))))))))
 ·intro h1;replace h1:=AG h1;refine Af U (Af U (An U U (.bool _) U (Ak U U (Af U (Af U (An U U (.bool _) U (Ak U U (Af U (Af U ?_)))))))));refine An U U (.bool _) U (Ai U U (Ab (Aa (A9 (AF (v:=(.bool _)) U U U ?_)))));exact ⟨congrArg Value.bool (by unfold FN; simp_all),rfl⟩
 ·intro h2;replace h2:=AH h2;refine Ae U U (BQ U U U (A1 U U (.bool _) U (Ak U U (A4 9 U ?_ ?_))))
  ·intro h3;replace h3:=AG h3;refine Af U (Af U (An U U (.bool _) U (Ak U U (Af U (Af U (An U U (.bool _) U (Ai U U (Ab (Aa (A9 (AF (v:=(.bool _)) U U U ?_)))))))))));exact ⟨congrArg Value.bool (by unfold FN; simp_all),rfl⟩
  ·intro h4;replace h4:=AH h4;refine Ae U U (BQ U U U (A1 U U (.bool _) U (Ak U U (A4 13 U ?_ ?_))))
   ·intro h5;replace h5:=AG h5;refine Af U (Af U (An U U (.bool _) U (Ai U U (Ab (Aa (A9 (AF (v:=(.bool _)) U U U ?_)))))));exact ⟨congrArg Value.bool (by unfold FN; simp_all),rfl⟩
   ·intro h6;replace h6:=AH h6;refine Ae U U (BQ U U U (A1 U U (.bool _) U (Ai U U (Ab (Aa (A9 (AF (v:=(.bool _)) U U U ?_)))))));exact ⟨congrArg Value.bool (by unfold FN; simp_all),rfl⟩

/-! ### Put -/
/-- k bytes of n, the greatest first. -/
def Ck (n k:Nat):List UInt8:=(List.range k).map fun i=>UInt8.ofNat (n / 2 ^ (8*(k - 1 - i)))
theorem CS (n k:Nat):(Ck n k).length=k:=by simp [Ck]
theorem Pb {n k i:Nat} (h:i<k):(Ck n k).take (i+1)=(Ck n k).take i++[UInt8.ofNat (n / 2 ^ (8*(k - 1 - i)))]:=D5 (DF h)
theorem Fv (x:Nat):Value.int .u8 ((x % 256:Nat):Int)=bv (UInt8.ofNat x):=by
 unfold bv; congr 2
def NK (l:List UInt8) (n:Nat) (k:Int):List UInt8:=bif FN k then l++Ck n k.toNat else l

set_option maxHeartbeats 1000000 in
theorem Qb (a:Option Addr) (c m:Nat) (l:List UInt8) (n:Nat) (k:Int) (w:World) (R:Rd w a 1 B8 l) (hml:l.length=m) (hm:m≤140737488351231) (_:n<18446744073709551616) :
  Ret Tryz.prog 85 #[.slice a m c,.int .u64 (n:Int),.int .i64 k] w fun v w'=>Fresh w w' 5 1 v ((NK l n k).map bv):=by
 subst hml;obtain ⟨w0,rfl⟩:∃ w0,w0=w:=⟨_,rfl⟩;refine A2 (fn:=Tryz.f85) Tryz.func85 U [.slice a l.length c,.int .u64 (n:Int),.int .i64 k] U (by kernel_rfl) ?_;refine Ag (A5 U U (Ab (Aa (Ag (Ap U U (Al U Ab6 (Yk a c l.length l _ R U (by omega)) U ?_))))));rintro v w ⟨F,-⟩;obtain ⟨a7,n7,c7,full7,rfl,O,hb⟩:=F.ex;have hn7:n7=l.length:=OS.num O;subst hn7;have H:Ctx w0 [] w (ent a7 5 full7):=⟨F.ext,fun x hx=>(hb x hx).1,Lc,fun x hx => .inr (hb x hx).2⟩;refine A5 U U (Ab (Aa (Aq (Ag (Ae U U (Al U W3 (Pa k _) U ?_))))));rintro v w ⟨rfl,hx⟩;replace H:=H.call hx;refine Bv U U (Ab (Aa (Ay _ U ?_ ?_)))
 ·intro h1;replace h1:=Bo h1;refine Ag (Ap U U (A5 U U (Ab (Aa (A9 (Am (AF (v:=(.slice _ _ _)) U U U ?_)))))));rw [NK,h1];exact Ctx.fresh (L:=[]) H O
 ·intro h1;replace h1:=Bp h1;obtain ⟨q,rfl,hq1,hq8⟩:=Nz h1;rw [NK,h1,show ((q:Int)).toNat=q from rfl];refine Ax (Aa (Aq (Ag (Ae U U (Ae U U (Ab (Aa (Av (Bd 2147418496 (α:=Nat × Option Addr × Nat × List Value) (fun x=>[(16,.int .i64 x.1),(7,.slice x.2.1 (l.length+x.1) x.2.2.1)]) (fun x w'=>x.1≤q∧Ctx w0 [] w' (ent x.2.1 5 x.2.2.2)∧OS x.2.1 (l.length+x.1) x.2.2.1 1 x.2.2.2 ((l++(Ck n q).take x.1).map bv)) (fun x=>q - x.1) (0,a7,c7,full7) U ?_ ?_ ?_)))))))))
  ·exact ⟨rfl,rfl,trivial⟩
  ·exact ⟨Nat.zero_le _,H,by simpa using O⟩
  ·rintro ⟨i,a7,c7,full7⟩ j w ⟨hi,H,O⟩; dsimp only at hi H O; dsimp only;refine Ag (AO U U U (Ab (Aa (Aq (Ay _ U ?_ ?_)))))
   ·intro h2;replace h2:=AG h2;refine Ax (Aa (Aq (Av (Ag (Ae U U (Ad U U (Ab (Aa (Aw (Ap U U (Ae U U ?_)))))))))));refine Ae U U (Bg U U U (by omega) (by omega) ?_);refine Ae U U (Bg U U U (by omega) (by omega) ?_);refine Cn U U U (by omega) (by omega) ?_;rw [show (8:Int)*((q:Int) - 1 - (i:Int))=((8*(q - 1 - i):Nat):Int) from by omega];refine Ek U U U (by omega) ?_;refine EK U U Da Gj ?_;rw [Fv];refine D4 _ (.int _ _) U C6 FO IZ U (by decide) (by decide) U U U H ?_;rintro b28 w - H;refine Dr (L:=[]) U C6 C6 FO P0 IZ U (by decide) U U H O U (by simp [B4]) (by omega) ?_;rintro a9 c9 full9 w H O;refine A5 U U (Ab (A3 (Aa (Aw (Ao U U U (by omega) (by omega) ?_)))));refine Ae U U (Ab (Aa ?_));refine ⟨(i+1,a9,c9,full9),rfl,⟨rfl,rfl,trivial⟩,⟨by omega,H,?_⟩,by dsimp only; omega⟩;dsimp only
    have O':OS a9 (l.length+(i+1)) c9 1 full9 ((l++(Ck n q).take i).map bv++[UInt8.ofNat (n / 2 ^ (8*(q - 1 - i)))].map bv):=O;rw [← List.map_append,List.append_assoc,← Pb (by omega)] at O';exact O'
   ·intro h2;replace h2:=AH h2;have hiq:i=q:=by omega
    subst hiq;refine Bc (Aj (Aj (AD (Aa (Ag (Ap U U (A5 U U (Ab (Aa (A9 (AF (v:=(.slice _ _ _)) U U U ?_)))))))))));have hl:(Ck n i).take i=Ck n i:=List.take_of_length_le (by rw [CS]; exact Nat.le_refl _);rw [hl] at O;exact Ctx.fresh (L:=[]) H O

set_option maxHeartbeats 1000000 in
theorem ZT (a:Option Addr) (c m:Nat) (l:List UInt8) (n:Nat) (k:Int) (w:World) (R:Rd w a 1 B8 l) (hml:l.length=m) (hm:m≤140737488351231) (_:n<18446744073709551616) :
  Ret Tryz.prog 150 #[.slice a m c,.int .u64 (n:Int),.int .i64 k] w fun v w'=>Fresh w w' 5 1 v ((NK l n k).map bv):=by
 subst hml;obtain ⟨w0,rfl⟩:∃ w0,w0=w:=⟨_,rfl⟩;have H:=Ctx.start w0 [];refine A2 (fn:=Tryz.f150) Tryz.func150 U [.slice a l.length c,.int .u64 (n:Int),.int .i64 k] U (by kernel_rfl) ?_;refine Ag (A5 U U (Ab (Aa (Ag (HC U C6 FO H ?_)))));rintro b9 w H O;refine Ap U U (Dt U C6 C6 FO P0 IZ U (by decide) (l.map bv) U U H O (by simp) (Wd l) (Rd.appB (R.ext0 H.ext)) (by omega) ?_);rintro a7 c7 full7 w H O;rw [Nat.zero_add];replace O:OS a7 l.length c7 1 full7 (l.map bv):=(by simpa using O);refine A5 U U (Ab (Aa (Aq (Ag (Ae U U (Al U W8 (U5 k _) U ?_))))));rintro v w ⟨rfl,rfl⟩;refine Bv U U (Ab (Aa (Ay _ U ?_ ?_)))
 ·intro h1;replace h1:=Bo h1;refine Ag (Ap U U (A5 U U (Ab (Aa (A9 (Am (AF (v:=(.slice _ _ _)) U U U ?_)))))));rw [NK,h1];exact Ctx.fresh (L:=[]) H O
 ·intro h1;replace h1:=Bp h1;obtain ⟨q,rfl,hq1,hq8⟩:=Nz h1;rw [NK,h1,show ((q:Int)).toNat=q from rfl];refine Ax (Aa (Aq (Ag (Ad U U (Ab (Aa (Av (Bd 8589869440 (α:=Nat × Option Addr × Nat × List Value) (fun x=>[(8,.int .i64 x.1),(7,.slice x.2.1 (l.length+x.1) x.2.2.1)]) (fun x w'=>x.1≤q∧Ctx w0 [] w' (ent x.2.1 5 x.2.2.2)∧OS x.2.1 (l.length+x.1) x.2.2.1 1 x.2.2.2 ((l++(Ck n q).take x.1).map bv)) (fun x=>q - x.1) (0,a7,c7,full7) U ?_ ?_ ?_))))))))
  ·exact ⟨rfl,rfl,trivial⟩
  ·exact ⟨Nat.zero_le _,H,by simpa using O⟩
  ·rintro ⟨i,a7,c7,full7⟩ j w ⟨hi,H,O⟩; dsimp only at hi H O; dsimp only;refine Aq (Ag (Ae U U (Ae U U (AO U U U (Ab (Aa (Ay _ U ?_ ?_)))))))
   ·intro h2;replace h2:=AG h2;refine Ax (Aa (Aq (Av (Aw (Ap U U (Ae U U (Ae U U (Bg U U U (by omega) (by omega) ?_))))))));refine Ae U U (Bg U U U (by omega) (by omega) ?_);refine Cn U U U (by omega) (by omega) ?_;rw [show (8:Int)*((q:Int) - 1 - (i:Int))=((8*(q - 1 - i):Nat):Int) from by omega];refine Dh U U Fy QO (by omega) (by omega) ?_;refine Ek U U U (by omega) ?_;refine EK U U Da Gj ?_;rw [Fv];refine D4 _ (.int _ _) U C6 FO IZ U (by decide) (by decide) U U U H ?_;rintro b31 w - H;refine Dr (L:=[]) U C6 C6 FO P0 IZ U (by decide) U U H O U (by simp [B4]) (by omega) ?_;rintro a9 c9 full9 w H O;refine A5 U U (Ab (A3 (Aa (Aw (Ae U U (Ao U U U (by omega) (by omega) ?_))))));refine Ad U U (Ab (Aa ?_));refine ⟨(i+1,a9,c9,full9),rfl,⟨rfl,rfl,trivial⟩,⟨by omega,H,?_⟩,by dsimp only; omega⟩;dsimp only
    have O':OS a9 (l.length+(i+1)) c9 1 full9 ((l++(Ck n q).take i).map bv++[UInt8.ofNat (n / 2 ^ (8*(q - 1 - i)))].map bv):=O;rw [← List.map_append,List.append_assoc,← Pb (by omega)] at O';exact O'
   ·intro h2;replace h2:=AH h2;have hiq:i=q:=by omega
    subst hiq;refine Bc (Aj (Aj (AD (Aa (Ag (Ap U U (A5 U U (Ab (Aa (A9 (AF (v:=(.slice _ _ _)) U U U ?_)))))))))));have hl:(Ck n i).take i=Ck n i:=List.take_of_length_le (by rw [CS]; exact Nat.le_refl _);rw [hl] at O;exact Ctx.fresh (L:=[]) H O

/-! ### Take -/
def numN (l:List UInt8):Nat:=l.foldl (fun n c=>n*256+c.toNat) 0
theorem Pc (l:List UInt8) (c:UInt8):numN (l++[c])=numN l*256+c.toNat:=by simp [numN]
theorem JC (l:List UInt8):numN l<256 ^ l.length:=by
 have h:∀ (l:List UInt8) (n k:Nat),n<256 ^ k→l.foldl (fun n c=>n*256+c.toNat) n<256 ^ (k+l.length):=by
  intro l
  induction l with
  | nil=>intro n k h; simpa using h
  | cons c l ih =>
   intro n k h;have hc:=Gb c;have:=ih (n*256+c.toNat) (k+1) (by rw [Nat.pow_succ]; omega)
   simpa [Nat.add_assoc,Nat.add_comm 1] using this
 have:=h l 0 0 (by simp);rw [Nat.zero_add] at this;exact this
theorem Yl {l:List UInt8} {i:Nat} {c:UInt8} (h:l[i]? = some c) (hi:i<8):(numN (l.take i)*2 ^ 8 % 18446744073709551616) ||| c.toNat=numN (l.take (i+1)):=by
 have h1:=JC (l.take i);have hc:=Gb c;have hlen:(l.take i).length≤7:=by rw [List.length_take]; omega
 have h2:256 ^ (l.take i).length≤256 ^ 7:=Nat.pow_le_pow_right (by omega) hlen;have h3:(256:Nat) ^ 7=72057594037927936:=by decide
 rw [D5 h,Pc,Nat.mod_eq_of_lt (by omega),Nat.mul_comm,← Nat.two_pow_add_eq_or_of_lt (by omega)]
def Hr (l:List UInt8) (at' k:Int):Int:=bif FN k && (decide (0≤at') && decide (at'≤l.length)) then (bif decide (k≤(l.length:Int) - at') then 0 else 5) else 1
def ID (l:List UInt8) (at' k:Int):Value:=bif decide (Hr l at' k=0) then .tuple #[.int .u64 (numN ((l.drop at'.toNat).take k.toNat):Int),.int .i64 (at'+k),.int .i64 0] else .tuple #[.int .u64 0,.int .i64 0,.int .i64 (Hr l at' k)]

set_option maxHeartbeats 1000000 in
theorem N0 (a:Option Addr) (c m:Nat) (l:List UInt8) (at' k:Int) (w:World) (R:Rd w a 1 B8 l) (hml:l.length=m) (hm:m≤9223372036854775799) (hc:l.length≤c) :
  Ret Tryz.prog 145 #[.slice a m c,.int .i64 at',.int .i64 k] w fun v w'=>v=ID l at' k∧Ext [] w w':=by
 subst hml;obtain ⟨w0,rfl⟩:∃ w0,w0=w:=⟨_,rfl⟩;have H:=Ctx.start w0 [];refine A2 (fn:=Tryz.f145) Tryz.func145 U [.slice a l.length c,.int .i64 at',.int .i64 k] U (by kernel_rfl) ?_;refine Ag (Ad U U (Ad U U (Ad U U (Ab (Aa (Aq (Av (Aq (Ag (Ae U U ?_))))))))));refine Al U W3 (Pa k _) U ?_;rintro v w ⟨rfl,hx⟩;replace H:=H.call hx;refine Bv U U (Ai U U (Ab (Aa (Ds 11 U ?_ ?_))))
 ·intro h1;replace h1:=Bo h1;have he:Hr l at' k=1:=by unfold Hr; rw [h1]; rfl
  refine Ax (Aa (Dc U (Ag (Ad U U (Ad U U (Ad U U (Ab (Aa (A9 (AB (Am (CZ (v1:=(.int _ _)) (v2:=(.int _ _)) (v3:=(.int _ _)) U U U U U ?_))))))))))));exact ⟨by rw [ID,he]; rfl,H.ext⟩
 ·intro h1;replace h1:=Bp h1;refine Ag (Ae U U (AO U U U (Ai U U (Ab (Aa (Ds 11 U ?_ ?_))))))
  ·intro h2;replace h2:=AG h2;have he:Hr l at' k=1:=by unfold Hr; rw [decide_eq_false (show ¬ 0≤at' by omega),Bool.false_and,Bool.and_false]; rfl
   refine Ax (Aa (Dc U (Ag (Ad U U (Ad U U (Ad U U (Ab (Aa (A9 (AB (Am (CZ (v1:=(.int _ _)) (v2:=(.int _ _)) (v3:=(.int _ _)) U U U U U ?_))))))))))));exact ⟨by rw [ID,he]; rfl,H.ext⟩
  ·intro h2;replace h2:=AH h2;refine Aw (Ae U U (Ap U U (AV U C6 U (Ct U U U (Ai U U (Ab (Aa (Ds 11 U ?_ ?_))))))))
   ·intro h3;replace h3:=AG h3;have he:Hr l at' k=1:=by unfold Hr; rw [decide_eq_false (show ¬ at'≤(l.length:Int) by omega),Bool.and_false,Bool.and_false]; rfl
    refine Ag (Ad U U (Ad U U (Ad U U (Ab (Aa (A9 (AB (Am (CZ (v1:=(.int _ _)) (v2:=(.int _ _)) (v3:=(.int _ _)) U U U U U ?_)))))))));exact ⟨by rw [ID,he]; rfl,H.ext⟩
   ·intro h3;replace h3:=AH h3;obtain ⟨q,rfl,hq1,hq8⟩:=Nz h1;obtain ⟨o,rfl⟩:∃ o:Nat,at'=o:=⟨at'.toNat,by omega⟩
    have hE:Hr l (o:Int) (q:Int)=bif decide ((q:Int)≤(l.length:Int) - (o:Int)) then 0 else 5:=by
     unfold Hr; rw [h1,decide_eq_true (show (0:Int)≤(o:Int) by omega),decide_eq_true (show (o:Int)≤(l.length:Int) by omega)]; rfl
    refine Ag (Ap U U (AV U C6 U (Ae U U (Bg U U U (by omega) (by omega) ?_))));refine Ae U U (AO U U U (Ai U U (Ab (Aa (Ay _ U ?_ ?_)))))
    ·intro h4;replace h4:=AG h4;rw [decide_eq_false (by omega)] at hE;refine Ag (Ad U U (Ad U U (Ad U U (Ab (Aa (A9 (AB (Am (CZ (v1:=(.int _ _)) (v2:=(.int _ _)) (v3:=(.int _ _)) U U U U U ?_)))))))));exact ⟨by rw [ID,hE]; rfl,H.ext⟩
    ·intro h4;replace h4:=AH h4;rw [decide_eq_true (by omega)] at hE;have R':=((R.ext0 H.ext).cut o c hc).take q;have hl:((l.drop o).take q).length=q:=by rw [List.length_take,List.length_drop]; omega
     refine Ax (A3 (Aa (Ag (Ae U U (Ae U U (Ao U U U (by omega) (by omega) ?_))))));refine Ad U U (Ab (Aa (Aq (Ag (Ap U U (Ae U U (Ae U U (NC U C6 FO U U U (by omega) (by omega) (by omega) ?_))))))));refine AV U C6 U (Ae U U (Ab (Aa (Av ?_))));rw [show ((o:Int)+(q:Int)).toNat - ((o:Int)).toNat=q by omega];refine Bd 70300024702016 (α:=Nat) (fun i=>[(36,.int .i64 i),(6,.int .u64 (numN (((l.drop o).take q).take i):Int))]) (fun i w'=>i≤q∧w=w') (fun i=>q - i) 0 U ?_ ?_ ?_
     ·exact ⟨rfl,rfl,trivial⟩
     ·exact ⟨Nat.zero_le _,rfl⟩
     ·rintro i j _ ⟨hi,rfl⟩;refine Ag (AO U U U (Ab (Aa (Aq (Ay _ U ?_ ?_)))))
      ·intro h5;replace h5:=AG h5;obtain ⟨x,hx⟩:=AE (l:=(l.drop o).take q) (i:=i) (by omega);have hxb:=Gb x;have hlt:=JC (((l.drop o).take q).take (i+1));have hst:=Yl hx (by omega);refine Ax (Aa (Aq (Av (Ag (AX R' U C6 FO U U (by omega) (by omega) (by omega) ?_)))));refine AY U Wy U (R'.one (f:=bv) hx) ?_;refine Ad U U (Ab (Aa (Aw (Ae U U (M6 (n:=8) U U U (by omega) ?_)))));refine Ae U U (Dh U U Gj Da (by omega) (by omega) ?_);refine UN U U U (Nat.mod_lt _ (by decide)) (by omega) ?_;rw [hst];refine Ad U U (Ab (A3 (Aa (Aw (Ao U U U (by omega) (by omega) ?_)))));refine Ae U U (Ab (Aa ?_));exact ⟨i+1,rfl,⟨rfl,rfl,trivial⟩,⟨by omega,rfl⟩,by omega⟩
      ·intro h5;replace h5:=AH h5;have hiq:i=q:=by omega
       subst hiq;rw [show ((l.drop o).take i).take i=(l.drop o).take i from List.take_of_length_le (by omega)];refine Bc (Aj (Aj (AD (Aa (Ag (Ae U U (Ae U U (Ad U U (Ad U U (Ad U U (Ab (Aa (A9 (CZ (v1:=(.int _ _)) (v2:=(.int _ _)) (v3:=(.int _ _)) U U U U U ?_))))))))))))));exact ⟨by rw [ID,hE]; rfl,H.ext⟩

end Go.Proofs.YtapphbmlkdhnmaaGreat

/- Numbers of eight bytes, and a round's bytes (what they are; the function that puts a row of numbers). -/
namespace Go.Proofs.YtapphbmlkdhnmaaGreat
open Go.GV
attribute [local irreducible] AC W Wq Wt

/-! ### Numbers as bytes -/
/-- A number of 64 bits without its sign. -/
def u64 (n:Int):Nat:=(n % 18446744073709551616).toNat
theorem EC (n:Int):u64 n<18446744073709551616:=by unfold u64; omega
theorem Fk {n:Int} (h0:0≤n) (h1:n<18446744073709551616):((u64 n:Nat):Int)=n:=by unfold u64; omega
theorem N2 (n:Int):IntKind.u64.wrap n=((u64 n:Nat):Int):=by
 have h:IntKind.u64.wrap n=n % 18446744073709551616:=rfl;rw [h];unfold u64;omega
theorem Jn (l:List UInt8) (n:Nat):NK l n 8=l++Ck n 8:=rfl
theorem putB2 (l:List UInt8) (n:Nat):NK l n 2=l++Ck n 2:=rfl
theorem RU (l:List UInt8) (n:Nat):NK l n 1=l++Ck n 1:=rfl
/-- Numbers of eight bytes each. -/
def DX (l:List Int):List UInt8:=l.flatMap fun n=>Ck (u64 n) 8
theorem N3:DX []=[]:=rfl
theorem Lq (x:Int) (l:List Int):DX (x::l)=Ck (u64 x) 8++DX l:=rfl
theorem Ym (l m:List Int):DX (l++m)=DX l++DX m:=List.flatMap_append ..
theorem Ha (x:Int):DX [x]=Ck (u64 x) 8:=by rw [Lq,N3,List.append_nil]
theorem Di:∀ l:List Int,(DX l).length=8*l.length
 | []=>rfl
 | x::l=>by
  rw [Lq,List.length_append,CS,Di l,List.length_cons];omega
theorem Pd {l:List Int} {i:Nat} {x:Int} (h:l[i]? = some x):DX (l.take (i+1))=DX (l.take i)++Ck (u64 x) 8:=by
 rw [List.take_add_one,h,Ym];exact congrArg _ (Ha x)
/-- The byte of a number. -/
def by8 (n:Int):UInt8:=UInt8.ofNat (n % 256).toNat
theorem ZU (n:Int):Value.int .u8 (n % 256)=bv (by8 n):=by
 unfold by8;have h:n % 256=(((n % 256).toNat % 256:Nat):Int):=by omega
 rw [h,Fv]
 congr 3
theorem Mi (n:Int):Value.int .u8 (IntKind.u8.wrap n)=bv (by8 n):=by
 rw [← ZU];rfl

/-! ### A round's bytes -/
def eB (r:Rnd) (i:Nat) (e:Ed) (x:Int):List UInt8 :=
 if i<r.ids.length then Ck (u64 (r.ids.getD i 0)) 8++[by8 e.f,by8 e.t]++Ck (u64 e.cap) 8++Ck (u64 (-e.cost)) 2++Ck (u64 x) 8
 else if e.f=r.N - 1 then Ck (u64 e.cap) 8++Ck (u64 x) 8
 else Ck (u64 x) 8
def esB (r:Rnd) (k:Nat):List UInt8:=(List.range k).flatMap fun i=>eB r i (r.es.getD i e0) (r.fl.getD i 0)
theorem KM {r:Rnd} {k:Nat} {e:Ed} {x:Int} (he:r.es[k]? = some e) (hx:r.fl[k]? = some x):esB r (k+1)=esB r k++eB r k e x:=by
 unfold esB;rw [List.range_succ,List.flatMap_append,List.flatMap_singleton,Bn he,Bn hx]
theorem Aep (r:Rnd) (i:Nat) (e:Ed) (x:Int):(eB r i e x).length≤28:=by
 unfold eB
 split
 ·simp [CS]
 ·split <;> simp [CS]
theorem JD (r:Rnd):∀ k,(esB r k).length≤28*k
 | 0=>by simp [esB]
 | k+1=>by
  have h1:=JD r k;unfold esB at h1 ⊢;rw [List.range_succ,List.flatMap_append,List.flatMap_singleton,List.length_append];have:=Aep r k (r.es.getD k e0) (r.fl.getD k 0);omega
def gwit:List UInt8:=[71,87,73,84]
def BJ (r:Rnd):List UInt8:=gwit++Ck (u64 r.no) 8++Ck (u64 r.day) 8++[bif r.cmp then 1 else 0,by8 (r.N - 1),by8 r.ids.length]
theorem GC (r:Rnd):(BJ r).length=23:=by simp [BJ,gwit,CS]
def Fw (r:Rnd):List UInt8:=BJ r++esB r r.es.length++DX r.pot
/-- Four bytes of a word, the least first. -/
def leB (s k:Nat):List UInt8:=(List.range k).map fun i=>UInt8.ofNat (s / 2 ^ (8*i))
theorem U6 (s k:Nat):(leB s k).length=k:=by simp [leB]
theorem Yn (s k:Nat):leB s (k+1)=leB s k++[UInt8.ofNat (s / 2 ^ (8*k))]:=by simp [leB,List.range_succ]
def Fa (r:Rnd):List UInt8:=Fw r++leB (PY (Fw r)).toNat 4

/-! ### The function that puts numbers -/
set_option maxHeartbeats 1000000 in
theorem JE (a a2:Option Addr) (c c2 m:Nat) (bl:List UInt8) (l:List Int) (w:World) (R:Rd w a 1 B8 bl) (hm:bl.length=m) (hm2:m≤100000000) (R2:Rd w a2 1 I1 l) (n:Nat) (hn:l.length=n) (hl:n≤1000000) (h0:0<n) :
  Ret Tryz.prog 86 #[.slice a m c,.slice a2 n c2] w fun v w'=>Fresh w w' 5 1 v ((bl++DX l).map bv):=by
 subst hm;subst hn;obtain ⟨w0,rfl⟩:∃ w0,w0=w:=⟨_,rfl⟩;have H:=Ctx.start w0 [];refine A2 (fn:=Tryz.f86) Tryz.func86 U [.slice a bl.length c,.slice a2 l.length c2] U (by kernel_rfl) ?_;refine Ag (A5 U U (Ab (Aa (Aq (Ag (Ap U U (AV U AU U (Ae U U (Ab (Aa (Av ?_)))))))))));refine Bd 261697 (α:=Nat × Option Addr × Nat) (fun x=>[(9,.int .i64 (x.1:Int)),(0,.slice x.2.1 (bl.length+8*x.1) x.2.2)]) (fun x w'=>x.1≤l.length∧Ctx w0 [] w' []∧Rd w' x.2.1 1 B8 (bl++DX (l.take x.1))∧(0<x.1→Fresh w0 w' 5 1 (.slice x.2.1 (bl.length+8*x.1) x.2.2) ((bl++DX (l.take x.1)).map bv))) (fun x=>l.length - x.1) (0,a,c) U ?_ ?_ ?_
 ·exact ⟨rfl,rfl,trivial⟩
 ·exact ⟨Nat.zero_le _,H,by simpa [DX] using R,fun h=>absurd h (Nat.lt_irrefl 0)⟩
 ·clear H;rintro ⟨i,ai,ci⟩ j w ⟨hi,H,Ri,Fi⟩; dsimp only at hi H Ri Fi; dsimp only;refine Ag (AO U U U (Ab (Aa (Aq (Ay _ U ?_ ?_)))))
  ·intro h1;replace h1:=AG h1;obtain ⟨x,hx⟩:=AE (l:=l) (i:=i) (by omega);have hlen:(bl++DX (l.take i)).length=bl.length+8*i:=by rw [List.length_append,Di,List.length_take]; omega
   refine Ax (Aa (Aq (Av (Ag (AX R2 U AU Bz U U (by omega) (by omega) (by rfl) ?_)))));refine AY U Bx U (((R2.ext0 H.ext).fld hx U (j:=0) U)) ?_;refine Ad U U (Ab (Aa (Aw (Ap U U (Ae U U (DR U U GN Da ?_))))));rw [N2];refine Al U TW (Qb ai ci _ _ (u64 x) 8 _ Ri hlen (by omega) (EC x)) U ?_;rintro v w2 F0;rw [Jn,List.append_assoc,← Pd hx] at F0;have F:=Fresh.since F0 H.ext;obtain ⟨a9,c9,rfl,R9,-⟩:=Fresh.rdB F0;have hlen2:(bl++DX (l.take (i+1))).length=bl.length+8*(i+1):=by { rw [List.length_append,Di,List.length_take]; omega }
   rw [hlen2] at F ⊢;replace H:=H.call F0.ext;refine A5 U U (Ab (A3 (Aa (Aw (Ao U U U (by omega) (by omega) ?_)))));refine Ae U U (Ab (Aa ?_));exact ⟨(i+1,a9,c9),rfl,⟨rfl,rfl,trivial⟩,⟨by omega,H,R9,fun _=>F⟩,by dsimp only; omega⟩
  ·intro h1;replace h1:=AH h1;obtain rfl:i=l.length:=by omega
   refine Bc (Aj (Aj (AD (Aa (Ag (Ap U U (A5 U U (Ab (Aa (A9 (AF (v:=(.slice _ _ _)) U U U ?_)))))))))));have:=Fi h0;rw [List.take_length] at this;exact this
end Go.Proofs.YtapphbmlkdhnmaaGreat

/- The function that puts a right round's bytes. -/
namespace Go.Proofs.YtapphbmlkdhnmaaGreat
open Go.GV
attribute [local irreducible] AC W Wq Wt

/-- What a round's words hold. -/
structure WU (r:Rnd):Prop where
 no:0≤r.no∧r.no<18446744073709551616
 ids:∀ x∈r.ids,0≤x∧x<18446744073709551616
 day:r.day<9223372036854775808
theorem Qc {w:World} {b t:Nat} {x:Int} (h:w.heap[b]? = some (Bl t [.int .i64 x])):Rd w (some ⟨b,0,none⟩) 1 I1 [x] :=
 Rd.of_bl (xs:=[x]) (enc:=I1) (r:=[]) h rfl (by simp)
theorem Yo {w:World} {b t:Nat} {x y:Int} (h:w.heap[b]? = some (Bl t [.int .i64 x,.int .i64 y])):Rd w (some ⟨b,0,none⟩) 1 I1 [x,y] :=
 Rd.of_bl (xs:=[x,y]) (enc:=I1) (r:=[]) h rfl (by simp)
theorem JF {w0 w w':World} {S:List Nat} {L:List (Nat × Obj)} {a a':Option Addr} {t:TypeId} {f f':List Value} (H:Ctx w0 S w (L++ent a t f)) (hx:Ext [] w w') (hb:∀ x∈ent a' t f',w'.heap[x.1]? = some x.2∧w.heap.size≤x.1):Ctx w0 S w' (L++ent a' t f') :=
 Ctx.left (L:=L++ent a' t f') (L':=ent a t f) ((Ctx.callEnt H hx hb Lc).perm (by rw [List.append_assoc,List.append_assoc]; exact List.Perm.append_left L List.perm_append_comm))
theorem esB0 (r:Rnd):esB r 0=[]:=rfl
theorem one3 (l:List UInt8):∀ v∈l.map bv,B4 v=true:=fun v hv=>by
 obtain ⟨x,-,rfl⟩:=List.mem_map.1 hv;rfl
set_option maxRecDepth 20000 in
set_option maxHeartbeats 8000000 in
theorem Qd (r:Rnd) (q:RSl) (w:World) (RA:RAt w r q) (hEc:r.es.length≤q.cE) (hr:RBnd r) (hu:WU r):Ret Tryz.prog 29 #[.agg (A8 r q).toArray] w fun v w' =>
  (Bw r=true→∃ s,v = .tuple #[s,.int .i64 0]∧Fresh w w' 5 1 s ((Fa r).map bv))∧(Bw r=false→v = .tuple #[.slice none 0 0,.int .i64 1]∧Ext [] w w'):=by
 obtain ⟨w0,rfl⟩:∃ w0,w0=w:=⟨_,rfl⟩;have H:=Ctx.start w0 [];obtain ⟨wr,hwr⟩:∃ wr,wr=Bw r:=⟨_,rfl⟩;refine A2 (fn:=Tryz.f29) Tryz.func29 U [.agg (A8 r q).toArray] U (by kernel_rfl) ?_;refine Ag (Bt U (A8 r q) (.agg _) U U H ?_);rintro b1 w - H;refine A5 U U (Ad U U (Ab (Aa (Aq (Ag (Bh U Cq BW U H at0 U (Al U MQ (FV r q _ (RA.ext0 H.ext) hEc hr) U ?_)))))));rintro v w ⟨rfl,hx11⟩;replace H:=H.call hx11;rw [← hwr];refine Bv U U (Ab (Aa (Ay _ U ?_ ?_)))
 ·intro h1;replace h1:=Bo h1;refine Ag (A5 U U (Ad U U (Ab (Aa (A9 (Am (DG (v1:=(.slice _ _ _)) (v2:=(.int _ _)) U U U U ?_)))))));have h1':Bw r=false:=by rw [← hwr]; simpa using h1
  exact ⟨fun h=>(by rw [h1] at h; cases h),fun _=>⟨rfl,H.ext⟩⟩
 ·intro h1;replace h1:=Bp h1;have h1':Bw r=true:=by rw [← hwr]; simpa using h1
  have WW:=HZ h1';have hN1:=WW.N1;have hN17:=WW.N17;have hd64:=WW.d64;have he200:=WW.e200;have hle:=WW.len;have hpo:=WW.pot;have RI:=RA.I;have RE:=RA.E;have RF:=RA.F;have RP:=RA.P;refine Ax (Aa (Ag (CJ (gwit.map bv) U C6 FO IZ (by decide) (by decide) (by kernel_rfl) H ?_)));rintro b13 w - H;refine M9 (l:=gwit) U C6 Gj U H at0 ?_;rintro w H R13;refine Ah U LV U (AA U BR U H at1 U (Al U TW (Qb (some ⟨b13,0,none⟩) 4 4 gwit (u64 r.no) 8 _ R13 U (by decide) (EC _)) (by rw [Fk hu.no.1 hu.no.2]; rfl) ?_));rintro v w2 F;rw [Jn] at F;obtain ⟨a4,n4,c4,f4,rfl,O,hb4⟩:=F.ex;obtain rfl:n4=(gwit++Ck (u64 r.no) 8).length:=OS.num O;replace H:Ctx w0 [] w2 ((b1,Bl 33 (A8 r q))::ent a4 5 f4):=(Ctx.callEnt H F.ext hb4 Lc).tail;refine A5 U U (Ab (Aa (Ag (Ad U U (Ab (Aa (Aq (Ag (Ah U FZ U (AA U Fx U H at0 U (Ab (Aa ?_))))))))))))
  refine Eo 32 (α:=Unit) (fun _=>[(5,bv (bif r.cmp then 1 else 0))]) (fun _ w'=>w'=w2) U ?_ ?_
  ·skip
   refine Ay _ U ?_ ?_
   ·intro h2;refine Aw (Ad U U (Ab (Aa ?_)));exact ⟨(),rfl,⟨by rw [h2]; rfl,trivial⟩,rfl⟩
   ·intro h2;refine Ax (Aa ?_);exact ⟨(),rfl,⟨by rw [h2]; rfl,trivial⟩,rfl⟩
  ·rintro - j5 w rfl;refine DC 34358689808 (α:=Option Addr × Nat × List Value) (fun z=>[(4,.slice z.1 (BJ r).length z.2.1)]) (fun z w'=>Ctx w0 [] w' ((b1,Bl 33 (A8 r q))::ent z.1 5 z.2.2)∧OS z.1 (BJ r).length z.2.1 1 z.2.2 ((BJ r).map bv)) U ?_ ?_
   ·skip
    have hb1:=H.get at0;have R4:Rd w a4 1 B8 (gwit++Ck (u64 r.no) 8):=OS.rdB O fun x hx=>H.blk x (List.mem_cons_of_mem _ hx)
    refine MK (n:=14) (N:=16) (anc:=IU 14 [[],[],[1],[1,2],[0,1,2,3],[],[],[0,1,2,3,4,6],[0,1,2,3,4,6,7],[],[9],[9,10],[9,10,11],[0,1,2,3,4,5,6,7,8,9,10,11,12]]) (fun i=>20+i) [isV (.slice a4 (gwit++Ck (u64 r.no) 8).length c4),isV (.pointer (some ⟨b1,1,none⟩)),isV (.int .i64 r.day),nbV 2 1 [.int .i64 r.day],frV w 5 1 (((gwit++Ck (u64 r.no) 8)++DX [r.day]).map bv),isV (bv (bif r.cmp then 1 else 0)),isV (.agg (A8 r q).toArray),isV (.int .i64 (r.N - 1)),isV (bv (by8 (r.N - 1))),isV (.pointer (some ⟨b1,3,none⟩)),isV (.slice q.aI r.ids.length q.cI),isV (.int .i64 (r.ids.length:Int)),isV (bv (by8 r.ids.length)),nbV 5 3 [bv (bif r.cmp then 1 else 0),bv (by8 (r.N - 1)),bv (by8 r.ids.length)]] (show Tryz.prog.follows .mixedOrders=true by kernel_rfl) U (by decide) (by kernel_rfl) (D8 _) (fun i j _ _ h=>by have h:20+i=20+j:=h; omega) ⟨Df _,Df _,Df _,MJ _ _ _,MH _ _ _ _,Df _,Df _,Df _,Df _,Df _,Df _,Df _,Df _,MJ _ _ _,trivial⟩ ?_ ?_
    ·intro m o e' w' hm ho hold hg hx;have hin:∀ t:Nat,t<20→∀ j,j<14→t≠20+j:=fun t ht j hj=>by omega
     have hx0:Ext [] w w':=(Ext.drew [] w).trans hx;have g1:e'.g 1=ptr b1:=(hold 1 (hin 1 (by decide))).trans rfl;have g4:e'.g 4 = .slice a4 (gwit++Ck (u64 r.no) 8).length c4:=(hold 4 (hin 4 (by decide))).trans rfl;have hc1:w'.heap[b1]? = some (Bl 33 (A8 r q)):=hx0.to hb1 (by simp);have g5:e'.g 5=bv (bif r.cmp then 1 else 0):=(hold 5 (hin 5 (by decide))).trans rfl;have hcs:m=0∨m=1∨m=2∨m=3∨m=4∨m=5∨m=6∨m=7∨m=8∨m=9∨m=10∨m=11∨m=12∨m=13:=by omega
     rcases hcs with rfl | rfl | rfl | rfl | rfl | rfl | rfl | rfl | rfl | rfl | rfl | rfl | rfl | rfl
     ·cases Option.some.inj ho;exact BP U _ g4 (Ab ⟨_,.refl _ _,rfl,rfl⟩)
     ·cases Option.some.inj ho;exact Ah (off:=1) U (by kernel_rfl) g1 (Ab ⟨_,.refl _ _,rfl,rfl⟩)
     ·cases Option.some.inj ho;exact AY U Bx (hg 1 (by decide)) (by rw [Au hc1]; rfl) (Ab ⟨_,.refl _ _,rfl,rfl⟩)
     ·cases Option.some.inj ho;refine CJ [.int .i64 r.day] U AU Bz FJ (by decide) (by decide) ?_ (Ctx.start w' []) ?_
      ·show Instr.fill _ _ [(0,e'.g 22)]=_;rw [show e'.g 22 = .int .i64 r.day from (hg 2 (by decide))];kernel_rfl
      ·intro b w2 _ H;exact Ab ⟨_,H.ext,rfl,b,rfl,H.get at0⟩
     ·cases Option.some.inj ho;obtain ⟨b3,h3,hb3⟩:=hg 3 (by decide);refine Al U Oq (JE a4 (some ⟨b3,0,none⟩) c4 1 _ (gwit++Ck (u64 r.no) 8) [r.day] _ (R4.ext0 hx0) U (by simp [gwit,CS]) (Qc hb3) 1 U (by decide) (by decide)) ?_ ?_
      ·show [e'.g 20,e'.g 23]=_;rw [show e'.g 20 = .slice a4 (gwit++Ck (u64 r.no) 8).length c4 from hg 0 (by decide),show e'.g 23 = .slice (some ⟨b3,0,none⟩) 1 1 from h3]
      ·intro v w2 F;exact Ab ⟨_,F.ext,rfl,Fresh.since F hx0⟩
     ·cases Option.some.inj ho;exact BP U _ g5 (Ab ⟨_,.refl _ _,rfl,rfl⟩)
     ·cases Option.some.inj ho;exact Cd (A8 r q) U Cq BW g1 U (BU (b:=b1) (t:=33) (l:=A8 r q) hc1 0 (A8 r q) U) (Ab ⟨_,.refl _ _,rfl,rfl⟩)
     ·cases Option.some.inj ho;refine Al U IC (Gw r q _ (by omega)) ?_ ?_
      ·show [e'.g 26]=_;rw [show e'.g 26 = .agg (A8 r q).toArray from hg 6 (by decide)]
      ·rintro v w2 ⟨rfl,h2⟩;exact Ab ⟨_,h2,rfl,rfl⟩
     ·cases Option.some.inj ho;exact DR U (hg 7 (by decide)) Fy Gj (Ab ⟨_,.refl _ _,rfl,Mi _⟩)
     ·cases Option.some.inj ho;exact Ah (off:=3) U (by kernel_rfl) g1 (Ab ⟨_,.refl _ _,rfl,rfl⟩)
     ·cases Option.some.inj ho;exact AY U DS (hg 9 (by decide)) (by rw [Au hc1]; rfl) (Ab ⟨_,.refl _ _,rfl,rfl⟩)
     ·cases Option.some.inj ho;exact AV U Bf (hg 10 (by decide)) (Ab ⟨_,.refl _ _,rfl,rfl⟩)
     ·cases Option.some.inj ho;exact DR U (hg 11 (by decide)) Fy Gj (Ab ⟨_,.refl _ _,rfl,Mi _⟩)
     ·cases Option.some.inj ho;refine CJ [bv (bif r.cmp then 1 else 0),bv (by8 (r.N - 1)),bv (by8 r.ids.length)] U C6 FO IZ (by decide) (by decide) ?_ (Ctx.start w' []) ?_
      ·show Instr.fill _ _ [(0,e'.g 25),(1,e'.g 28),(2,e'.g 32)]=_;rw [show e'.g 25=bv (bif r.cmp then 1 else 0) from (hg 5 (by decide)),show e'.g 28=bv (by8 (r.N - 1)) from (hg 8 (by decide)),show e'.g 32=bv (by8 r.ids.length) from (hg 12 (by decide))];kernel_rfl
      ·intro b w2 _ H;exact Ab ⟨_,H.ext,rfl,b,rfl,H.get at0⟩
    ·intro e' w' hds hold hg hx;have hx0:Ext [] w w':=(Ext.drew [] w).trans hx;obtain ⟨b3,h3,hb3⟩:=hg 13 (by decide);have F:Fresh w w' 5 1 (e'.g 24) (((gwit++Ck (u64 r.no) 8)++DX [r.day]).map bv):=hg 4 (by decide);obtain ⟨a,n,c,full,h4,O4,hb4'⟩:=F.ex;obtain rfl:=OS.num O4;have H5:Ctx w0 [] w' ([(b1,Bl 33 (A8 r q))]++ent a 5 full):=JF (L:=[(b1,Bl 33 (A8 r q))]) H F.ext hb4';refine Dt U C6 C6 FO P0 IZ U (by decide) ([(bif r.cmp then 1 else 0),by8 (r.N - 1),by8 r.ids.length].map bv) h4 h3 H5 O4 U (one3 _) (fun j v hv=>⟨_,rfl,by rw [Co,Nat.zero_add,Au hb3]; exact hv⟩) (by simp [gwit,CS,Di]) fun a' c' full' w3 H6 O6=>?_;refine Cj U _ (CH _ _ _) (Ab ?_);rw [← List.map_append] at O6;have hlen:((gwit++Ck (u64 r.no) 8++DX [r.day]).length+3)=(BJ r).length:=by rw [Ha]; simp only [BJ,List.length_append,List.length_cons,List.length_nil]
     have hB:gwit++Ck (u64 r.no) 8++DX [r.day]++[(bif r.cmp then 1 else 0),by8 (r.N - 1),by8 r.ids.length]=BJ r:=by rw [Ha]; rfl
     rw [hlen] at O6 ⊢;rw [hB] at O6;exact ⟨(a',c',full'),hds,⟨CH _ _ _,trivial⟩,H6,O6⟩
   ·rintro ⟨a4,c4,f4⟩ j7 w ⟨H,O⟩; dsimp only at H O; dsimp only;refine Aq (Ag (Ah U C4 U (Ah U BD U (AA U C5 U H at0 U (AV U BO U (Ae U U (Ab (Aa (Av (Bd 2535301200456458802443650597328 (α:=Nat × Option Addr × Nat × List Value) (fun z=>[(39,.int .i64 (z.1:Int)),(4,.slice z.2.1 (BJ r++esB r z.1).length z.2.2.1)]) (fun z w'=>z.1≤r.es.length∧Ctx w0 [] w' ((b1,Bl 33 (A8 r q))::ent z.2.1 5 z.2.2.2)∧OS z.2.1 (BJ r++esB r z.1).length z.2.2.1 1 z.2.2.2 ((BJ r++esB r z.1).map bv)) (fun z=>r.es.length - z.1) (0,a4,c4,f4) U ?_ ?_ ?_))))))))))
    ·exact ⟨rfl,by rw [esB0,List.append_nil]; rfl,trivial⟩
    ·exact ⟨Nat.zero_le _,H,by dsimp only; rw [esB0,List.append_nil]; exact O⟩
    ·clear H O;rintro ⟨i,a4,c4,f4⟩ j w ⟨hi,H,O⟩; dsimp only at hi H O; dsimp only;refine Ag (AO U U U (Ab (Aa (Aq (Ay _ U ?_ ?_)))))
     ·intro h2;replace h2:=AG h2;obtain ⟨e,he⟩:=AE (l:=r.es) (i:=i) (by omega);obtain ⟨x,hxx⟩:=AE (l:=r.fl) (i:=i) (by omega);have hst:=KM he hxx;have hbs:(BJ r++esB r i).length≤6000:=by have:=JD r i; rw [List.length_append,GC]; omega
      have hed:=CY ((Cb (BN WW.wi).2.1).2.2.2.1 e (List.mem_of_getElem? he));refine Ax (Aa (Aq (Av (Ag (Ae U U (AX RE U BO B3 U U (by omega) (by omega) (by rfl) ?_))))));refine Cd _ U DT B3 U U (((RE.ext0 H.ext).row he U)) ?_;refine Bs U Dn H ?_;rintro b7 w - H;refine Ad U U (BL U B3 U U U (by exact CN _) H at0 U ?_);rintro w H;refine Ab (Aa (Ag (Ah U CW U (Ah U DM U (AA U BC U H at1 U (Ae U U (AX RF U AU Bz U U (by omega) (by omega) (by rfl) ?_)))))));refine AY U Bx U (((RF.ext0 H.ext).fld hxx U (j:=0) U)) ?_;refine Ad U U (Ab (Aa (Av (Ag (Ae U U (Ah U Dk U (AA U DS U H at1 U (AV U Bf U (AO U U U (Ai U U ?_))))))))));refine Ab (Aa (Ay _ U ?_ ?_))
      ·intro h3;replace h3:=AG h3;obtain ⟨id,hid0⟩:=AE (l:=r.ids) (i:=i) (by omega);have hid:=hu.ids id (List.mem_of_getElem? hid0);have hde:=PW (WW.due i e (by omega) he);refine DC 37777778941452554862608 (α:=Option Addr × Nat × List Value) (fun z=>[(4,.slice z.1 (BJ r++esB r i++Ck (u64 id) 8++[by8 e.f,by8 e.t]).length z.2.1)]) (fun z w'=>Ctx w0 [] w' ((b7,Bl 92 (Br e))::(b1,Bl 33 (A8 r q))::ent z.1 5 z.2.2)∧OS z.1 (BJ r++esB r i++Ck (u64 id) 8++[by8 e.f,by8 e.t]).length z.2.1 1 z.2.2 ((BJ r++esB r i++Ck (u64 id) 8++[by8 e.f,by8 e.t]).map bv)) U ?_ ?_
       ·skip
        have hb1:=H.get at1;have hb7:=H.get at0;have R4:Rd w a4 1 B8 (BJ r++esB r i):=OS.rdB O fun x hx=>H.blk x (List.mem_cons_of_mem _ (List.mem_cons_of_mem _ hx))
        refine MK (n:=14) (N:=16) (anc:=IU 14 [[],[],[1],[],[1,2,3],[1,2,3,4],[0,1,2,3,4,5],[],[7],[7,8],[],[10],[10,11],[7,8,9,10,11,12]]) (fun i=>60+i) [isV (.slice a4 (BJ r++esB r i).length c4),isV (.pointer (some ⟨b1,3,none⟩)),isV (.slice q.aI r.ids.length q.cI),isV (.int .i64 (i:Int)),isV (.pointer (some ⟨(adr q.aI).block,(adr q.aI).off+i*1,none⟩)),isV (F1 id),frV w 5 1 (((BJ r++esB r i)++Ck (u64 id) 8).map bv),isV (.pointer (some ⟨b7,0,none⟩)),isV (.int .i64 e.f),isV (bv (by8 e.f)),isV (.pointer (some ⟨b7,1,none⟩)),isV (.int .i64 e.t),isV (bv (by8 e.t)),nbV 5 2 [bv (by8 e.f),bv (by8 e.t)]] (show Tryz.prog.follows .mixedOrders=true by kernel_rfl) U (by decide) (by kernel_rfl) (D8 _) (fun i j _ _ h=>by have h:60+i=60+j:=h; omega) ⟨Df _,Df _,Df _,Df _,Df _,Df _,MH _ _ _ _,Df _,Df _,Df _,Df _,Df _,Df _,MJ _ _ _,trivial⟩ ?_ ?_
        ·intro m o e' w' hm ho hold hg hx;have hin:∀ t:Nat,t<60→∀ j,j<14→t≠60+j:=fun t ht j hj=>by omega
         have hx0:Ext [] w w':=(Ext.drew [] w).trans hx;have g1:e'.g 1=ptr b1:=(hold 1 (hin 1 (by decide))).trans rfl;have g4:e'.g 4 = .slice a4 (BJ r++esB r i).length c4:=(hold 4 (hin 4 (by decide))).trans rfl;have hc1:w'.heap[b1]? = some (Bl 33 (A8 r q)):=hx0.to hb1 (by simp);have g6:e'.g 6 = .int .i64 (i:Int):=(hold 6 (hin 6 (by decide))).trans rfl;have g7:e'.g 7=ptr b7:=(hold 7 (hin 7 (by decide))).trans rfl;have hc7:w'.heap[b7]? = some (Bl 92 (Br e)):=hx0.to hb7 (by simp);have hcs:m=0∨m=1∨m=2∨m=3∨m=4∨m=5∨m=6∨m=7∨m=8∨m=9∨m=10∨m=11∨m=12∨m=13:=by omega
         rcases hcs with rfl | rfl | rfl | rfl | rfl | rfl | rfl | rfl | rfl | rfl | rfl | rfl | rfl | rfl
         ·cases Option.some.inj ho;exact BP U _ g4 (Ab ⟨_,.refl _ _,rfl,rfl⟩)
         ·cases Option.some.inj ho;exact Ah (off:=3) U (by kernel_rfl) g1 (Ab ⟨_,.refl _ _,rfl,rfl⟩)
         ·cases Option.some.inj ho;exact AY U DS (hg 1 (by decide)) (by rw [Au hc1]; rfl) (Ab ⟨_,.refl _ _,rfl,rfl⟩)
         ·cases Option.some.inj ho;exact BP U _ g6 (Ab ⟨_,.refl _ _,rfl,rfl⟩)
         ·cases Option.some.inj ho;exact AX RI U Bf Be (hg 2 (by decide)) (hg 3 (by decide)) (by omega) (by omega) U (Ab ⟨_,.refl _ _,rfl,rfl⟩)
         ·cases Option.some.inj ho;exact AY U BR (hg 4 (by decide)) ((RI.ext0 (H.ext.trans hx0)).fld hid0 U (j:=0) U) (Ab ⟨_,.refl _ _,rfl,rfl⟩)
         ·cases Option.some.inj ho;refine Al U TW (Qb a4 c4 _ (BJ r++esB r i) (u64 id) 8 _ (R4.ext0 hx0) U (by omega) (EC _)) ?_ ?_
          ·show [e'.g 60,e'.g 65,.int .i64 8]=_;rw [show e'.g 60 = .slice a4 (BJ r++esB r i).length c4 from hg 0 (by decide),show e'.g 65=F1 id from hg 5 (by decide),Fk hid.1 hid.2];rfl
          ·intro v w2 F;exact Ab ⟨_,F.ext,rfl,Fresh.since F hx0⟩
         ·cases Option.some.inj ho;exact Ah (off:=0) U (by kernel_rfl) g7 (Ab ⟨_,.refl _ _,rfl,rfl⟩)
         ·cases Option.some.inj ho;exact AY U BG (hg 7 (by decide)) (by rw [Au hc7]; rfl) (Ab ⟨_,.refl _ _,rfl,rfl⟩)
         ·cases Option.some.inj ho;exact DR U (hg 8 (by decide)) Fy Gj (Ab ⟨_,.refl _ _,rfl,Mi _⟩)
         ·cases Option.some.inj ho;exact Ah (off:=1) U (by kernel_rfl) g7 (Ab ⟨_,.refl _ _,rfl,rfl⟩)
         ·cases Option.some.inj ho;exact AY U BG (hg 10 (by decide)) (by rw [Au hc7]; rfl) (Ab ⟨_,.refl _ _,rfl,rfl⟩)
         ·cases Option.some.inj ho;exact DR U (hg 11 (by decide)) Fy Gj (Ab ⟨_,.refl _ _,rfl,Mi _⟩)
         ·cases Option.some.inj ho;refine CJ [bv (by8 e.f),bv (by8 e.t)] U C6 FO IZ (by decide) (by decide) ?_ (Ctx.start w' []) ?_
          ·show Instr.fill _ _ [(0,e'.g 69),(1,e'.g 72)]=_;rw [show e'.g 69=bv (by8 e.f) from (hg 9 (by decide)),show e'.g 72=bv (by8 e.t) from (hg 12 (by decide))];kernel_rfl
          ·intro b w2 _ H;exact Ab ⟨_,H.ext,rfl,b,rfl,H.get at0⟩
        ·intro e' w' hds hold hg hx;have hx0:Ext [] w w':=(Ext.drew [] w).trans hx;obtain ⟨b3,h3,hb3⟩:=hg 13 (by decide);have F:Fresh w w' 5 1 (e'.g 66) (((BJ r++esB r i)++Ck (u64 id) 8).map bv):=hg 6 (by decide);obtain ⟨a,n,c,full,h4,O4,hb4'⟩:=F.ex;obtain rfl:=OS.num O4;have H5:Ctx w0 [] w' ([(b7,Bl 92 (Br e)),(b1,Bl 33 (A8 r q))]++ent a 5 full):=JF (L:=[(b7,Bl 92 (Br e)),(b1,Bl 33 (A8 r q))]) H F.ext hb4';refine Dt U C6 C6 FO P0 IZ U (by decide) ([by8 e.f,by8 e.t].map bv) h4 h3 H5 O4 U (one3 _) (fun j v hv=>⟨_,rfl,by rw [Co,Nat.zero_add,Au hb3]; exact hv⟩) (by rw [List.length_append,CS]; omega) fun a' c' full' w3 H6 O6=>?_;refine Cj U _ (CH _ _ _) (Ab ?_);rw [← List.map_append] at O6;have hlen:((BJ r++esB r i)++Ck (u64 id) 8).length+2=(BJ r++esB r i++Ck (u64 id) 8++[by8 e.f,by8 e.t]).length:=by simp only [List.length_append,List.length_cons,List.length_nil]
         rw [hlen] at O6 ⊢;exact ⟨(a',c',full'),hds,⟨CH _ _ _,trivial⟩,H6,O6⟩
       ·rintro ⟨a4,c4,f4⟩ j14 w ⟨H,O⟩; dsimp only at H O; dsimp only;have hb2:(BJ r++esB r i++Ck (u64 id) 8++[by8 e.f,by8 e.t]).length≤6010:=by simp only [List.length_append,CS,List.length_cons,List.length_nil] at hbs ⊢; omega
        have hfin:(BJ r++esB r i++Ck (u64 id) 8++[by8 e.f,by8 e.t])++DX [e.cap]++Ck (u64 (-e.cost)) 2++DX [x]=BJ r++esB r (i+1):=by
         rw [hst];unfold eB;rw [if_pos (by omega),Bn hid0,Ha,Ha];simp only [List.append_assoc]
        refine J2 309447230889482111563071504 (α:=Option Addr × Nat × List Value) (fun z=>[(4,.slice z.1 (BJ r++esB r (i+1)).length z.2.1)]) (fun z w'=>Ctx w0 [] w' ((b7,Bl 92 (Br e))::(b1,Bl 33 (A8 r q))::ent z.1 5 z.2.2)∧OS z.1 (BJ r++esB r (i+1)).length z.2.1 1 z.2.2 ((BJ r++esB r (i+1)).map bv)) U ?_ ?_
        ·skip
         have hb7:=H.get at0;have R4:Rd w a4 1 B8 (BJ r++esB r i++Ck (u64 id) 8++[by8 e.f,by8 e.t]):=OS.rdB O fun x hx=>H.blk x (List.mem_cons_of_mem _ (List.mem_cons_of_mem _ hx))
         refine MK (n:=13) (N:=14) (anc:=IU 13 [[],[],[1],[1,2],[0,1,2,3],[],[5],[5,6],[5,6,7],[0,1,2,3,4,5,6,7,8],[],[10],[0,1,2,3,4,5,6,7,8,9,10,11]]) (fun i=>75+i) [isV (.slice a4 ((BJ r++esB r i)++Ck (u64 id) 8++[by8 e.f,by8 e.t]).length c4),isV (.pointer (some ⟨b7,2,none⟩)),isV (.int .i64 e.cap),nbV 2 1 [.int .i64 e.cap],frV w 5 1 ((((BJ r++esB r i)++Ck (u64 id) 8++[by8 e.f,by8 e.t])++DX [e.cap]).map bv),isV (.pointer (some ⟨b7,3,none⟩)),isV (.int .i64 e.cost),isV (.int .i64 (-e.cost)),isV (.int .u64 ((u64 (-e.cost):Nat):Int)),frV w 5 1 ((((BJ r++esB r i)++Ck (u64 id) 8++[by8 e.f,by8 e.t])++DX [e.cap]++Ck (u64 (-e.cost)) 2).map bv),isV (.int .i64 x),nbV 2 1 [.int .i64 x],frV w 5 1 ((((BJ r++esB r i)++Ck (u64 id) 8++[by8 e.f,by8 e.t])++DX [e.cap]++Ck (u64 (-e.cost)) 2++DX [x]).map bv)] (show Tryz.prog.follows .mixedOrders=true by kernel_rfl) U (by decide) (by kernel_rfl) (D8 _) (fun i j _ _ h=>by have h:75+i=75+j:=h; omega) ⟨Df _,Df _,Df _,MJ _ _ _,MH _ _ _ _,Df _,Df _,Df _,Df _,MH _ _ _ _,Df _,MJ _ _ _,MH _ _ _ _,trivial⟩ ?_ ?_
         ·intro m o e' w' hm ho hold hg hx;have hin:∀ t:Nat,t<75→∀ j,j<13→t≠75+j:=fun t ht j hj=>by omega
          have hx0:Ext [] w w':=(Ext.drew [] w).trans hx;have g4:e'.g 4 = .slice a4 ((BJ r++esB r i)++Ck (u64 id) 8++[by8 e.f,by8 e.t]).length c4:=(hold 4 (hin 4 (by decide))).trans rfl;have g7:e'.g 7=ptr b7:=(hold 7 (hin 7 (by decide))).trans rfl;have g8:e'.g 8 = .int .i64 x:=(hold 8 (hin 8 (by decide))).trans rfl;have hc7:w'.heap[b7]? = some (Bl 92 (Br e)):=hx0.to hb7 (by simp);have hcs:m=0∨m=1∨m=2∨m=3∨m=4∨m=5∨m=6∨m=7∨m=8∨m=9∨m=10∨m=11∨m=12:=by omega
          rcases hcs with rfl | rfl | rfl | rfl | rfl | rfl | rfl | rfl | rfl | rfl | rfl | rfl | rfl
          ·cases Option.some.inj ho;exact BP U _ g4 (Ab ⟨_,.refl _ _,rfl,rfl⟩)
          ·cases Option.some.inj ho;exact Ah (off:=2) U (by kernel_rfl) g7 (Ab ⟨_,.refl _ _,rfl,rfl⟩)
          ·cases Option.some.inj ho;exact AY U Bx (hg 1 (by decide)) (by rw [Au hc7]; rfl) (Ab ⟨_,.refl _ _,rfl,rfl⟩)
          ·cases Option.some.inj ho;refine CJ [.int .i64 e.cap] U AU Bz FJ (by decide) (by decide) ?_ (Ctx.start w' []) ?_
           ·show Instr.fill _ _ [(0,e'.g 77)]=_;rw [show e'.g 77 = .int .i64 e.cap from (hg 2 (by decide))];kernel_rfl
           ·intro b w2 _ H;exact Ab ⟨_,H.ext,rfl,b,rfl,H.get at0⟩
          ·cases Option.some.inj ho;obtain ⟨b3,h3,hb3⟩:=hg 3 (by decide);refine Al U Oq (JE a4 (some ⟨b3,0,none⟩) c4 1 _ ((BJ r++esB r i)++Ck (u64 id) 8++[by8 e.f,by8 e.t]) [e.cap] _ (R4.ext0 hx0) U (by omega) (Qc hb3) 1 U (by decide) (by decide)) ?_ ?_
           ·show [e'.g 75,e'.g 78]=_;rw [show e'.g 75 = .slice a4 ((BJ r++esB r i)++Ck (u64 id) 8++[by8 e.f,by8 e.t]).length c4 from hg 0 (by decide),show e'.g 78 = .slice (some ⟨b3,0,none⟩) 1 1 from h3]
           ·intro v w2 F;exact Ab ⟨_,F.ext,rfl,Fresh.since F hx0⟩
          ·cases Option.some.inj ho;exact Ah (off:=3) U (by kernel_rfl) g7 (Ab ⟨_,.refl _ _,rfl,rfl⟩)
          ·cases Option.some.inj ho;exact AY U Bx (hg 5 (by decide)) (by rw [Au hc7]; rfl) (Ab ⟨_,.refl _ _,rfl,rfl⟩)
          ·cases Option.some.inj ho;exact EJ U (hg 6 (by decide)) (by omega) (by omega) (Ab ⟨_,.refl _ _,rfl,rfl⟩)
          ·cases Option.some.inj ho;exact DR U (hg 7 (by decide)) GN Da (Ab ⟨_,.refl _ _,rfl,congrArg (Value.int .u64) (N2 _)⟩)
          ·cases Option.some.inj ho;have F4:Fresh w w' 5 1 (e'.g 79) ((((BJ r++esB r i)++Ck (u64 id) 8++[by8 e.f,by8 e.t])++DX [e.cap]).map bv):=hg 4 (by decide);obtain ⟨a9,c9,h9,R9,-⟩:=Fresh.rdB F4;refine Al U TW (Qb a9 c9 _ (((BJ r++esB r i)++Ck (u64 id) 8++[by8 e.f,by8 e.t])++DX [e.cap]) (u64 (-e.cost)) 2 _ R9 U (by rw [List.length_append,Di,List.length_singleton]; omega) (EC _)) ?_ ?_
           ·show [e'.g 79,e'.g 83,.int .i64 2]=_;rw [h9,show e'.g 83 = .int .u64 ((u64 (-e.cost):Nat):Int) from hg 8 (by decide)]
           ·intro v w2 F;exact Ab ⟨_,F.ext,rfl,Fresh.since F hx0⟩
          ·cases Option.some.inj ho;exact BP U _ g8 (Ab ⟨_,.refl _ _,rfl,rfl⟩)
          ·cases Option.some.inj ho;refine CJ [.int .i64 x] U AU Bz FJ (by decide) (by decide) ?_ (Ctx.start w' []) ?_
           ·show Instr.fill _ _ [(0,e'.g 85)]=_;rw [show e'.g 85 = .int .i64 x from (hg 10 (by decide))];kernel_rfl
           ·intro b w2 _ H;exact Ab ⟨_,H.ext,rfl,b,rfl,H.get at0⟩
          ·cases Option.some.inj ho;have F9:Fresh w w' 5 1 (e'.g 84) ((((BJ r++esB r i)++Ck (u64 id) 8++[by8 e.f,by8 e.t])++DX [e.cap]++Ck (u64 (-e.cost)) 2).map bv):=hg 9 (by decide);obtain ⟨a9,c9,h9,R9,-⟩:=Fresh.rdB F9;obtain ⟨b3,h3,hb3⟩:=hg 11 (by decide);refine Al U Oq (JE a9 (some ⟨b3,0,none⟩) c9 1 _ (((BJ r++esB r i)++Ck (u64 id) 8++[by8 e.f,by8 e.t])++DX [e.cap]++Ck (u64 (-e.cost)) 2) [x] _ R9 U (by rw [List.length_append,CS,List.length_append,Di,List.length_singleton]; omega) (Qc hb3) 1 U (by decide) (by decide)) ?_ ?_
           ·show [e'.g 84,e'.g 86]=_;rw [h9,show e'.g 86 = .slice (some ⟨b3,0,none⟩) 1 1 from h3]
           ·intro v w2 F;exact Ab ⟨_,F.ext,rfl,Fresh.since F hx0⟩
         ·intro e' w' hds hold hg hx;have F:Fresh w w' 5 1 (e'.g 87) (((BJ r++esB r i++Ck (u64 id) 8++[by8 e.f,by8 e.t])++DX [e.cap]++Ck (u64 (-e.cost)) 2++DX [x]).map bv):=hg 12 (by decide);rw [hfin] at F;obtain ⟨a,n,c,full,h4,O4,hb4'⟩:=F.ex;obtain rfl:=OS.num O4;have H5:Ctx w0 [] w' ([(b7,Bl 92 (Br e)),(b1,Bl 33 (A8 r q))]++ent a 5 full):=JF (L:=[(b7,Bl 92 (Br e)),(b1,Bl 33 (A8 r q))]) H F.ext hb4';refine Cj U _ h4 (Ab ?_);exact ⟨rfl,(a,c,full),hds,⟨CH _ _ _,trivial⟩,H5,O4⟩
        ·rintro ⟨a4,c4,f4⟩ j15 w ⟨H,O⟩; dsimp only at H O; dsimp only;refine A3 (A3 (Aa (Aw (Ao U U U (by omega) (by omega) ?_))));refine Ae U U (Ab (Aa ?_));exact ⟨(i+1,a4,c4,f4),rfl,⟨rfl,rfl,trivial⟩,⟨by omega,H.tail,O⟩,by dsimp only; omega⟩
      ·intro h3;replace h3:=AH h3;have hb1:=H.get at1;have hb7:=H.get at0;have HG:=H;obtain ⟨w1,rfl⟩:∃ z,z=w:=⟨_,rfl⟩;clear H;have H:=Ctx.start w1 [];refine CI [([0,1,2],3),([4],5)] (fun z=>Ext [] w1 z) [] B0 (by kernel_rfl) (Ext.drew [] w1) ?_;refine AL U U ?_;refine AJ U CX U (BM U BG U (fun _ hx=>(by rw [Au (hx.to hb7 (by simp))]; rfl)) ?_);refine Fb _ U Cq BW U U (fun _ hx=>(BU (b:=b1) (t:=33) (l:=A8 r q) (hx.to hb1 (by simp)) 0 (A8 r q) rfl)) ?_;refine Bu ?_;replace H:=H.drew;refine Al U IC (Gw r q _ (by omega)) U ?_;rintro v w ⟨rfl,hx92⟩;replace H:=H.call hx92;refine Ab (BH (H.ext) (AL U U ?_));refine Wc U U U (Bu (Ai U U (Ab (BH (H.ext) (BS (Ay _ U ?_ ?_))))))
       ·intro h4;replace h4:=AG h4;replace H:=HG.call H.ext;have R4:=OS.rdB O fun x hx=>H.blk x (List.mem_cons_of_mem _ (List.mem_cons_of_mem _ hx));refine Aw (Ap U U (Ah U CD U (AA U Bx U H at0 U (Ae U U ?_))));have H0:=H;replace H:=Ctx.start w [];refine CJ [.int .i64 e.cap,.int .i64 x] U AU Bz FJ (by decide) (by decide) (by kernel_rfl) H ?_;rintro b98 w2 - H;have hb98:=H.get at0;replace H:=H0.call H.ext;refine Al U Oq (JE a4 (some ⟨b98,0,none⟩) c4 2 _ (BJ r++esB r i) [e.cap,x] _ (OS.rdB O fun x hx=>H.blk x (List.mem_cons_of_mem _ (List.mem_cons_of_mem _ hx))) U (by omega) (Yo hb98) 2 U (by decide) (by decide)) U ?_;rintro v w3 F;have hE:(BJ r++esB r i)++DX [e.cap,x]=BJ r++esB r (i+1):=by { rw [hst]; unfold eB; rw [if_neg (by omega),if_pos h4,Lq,Ha,List.append_assoc] }
        rw [hE] at F;obtain ⟨a9,n9,c9,f9,rfl,O9,hb9⟩:=F.ex;obtain rfl:=OS.num O9;replace H:Ctx w0 [] w3 ([(b7,Bl 92 (Br e)),(b1,Bl 33 (A8 r q))]++ent a9 5 f9):=JF (L:=[(b7,Bl 92 (Br e)),(b1,Bl 33 (A8 r q))]) H F.ext hb9;refine A5 U U (Ab (A3 (A3 (Aa (Aw (Ao U U U (by omega) (by omega) ?_))))));refine Ae U U (Ab (Aa ?_));exact ⟨(i+1,a9,c9,f9),rfl,⟨rfl,rfl,trivial⟩,⟨by omega,H.tail,O9⟩,by dsimp only; omega⟩
       ·intro h4;replace h4:=AH h4;replace H:=HG.call H.ext;refine Aw (Ap U U (Ae U U ?_));have H0:=H;replace H:=Ctx.start w [];refine CJ [.int .i64 x] U AU Bz FJ (by decide) (by decide) (by kernel_rfl) H ?_;rintro b52 w2 - H;have hb52:=H.get at0;replace H:=H0.call H.ext;refine Al U Oq (JE a4 (some ⟨b52,0,none⟩) c4 1 _ (BJ r++esB r i) [x] _ (OS.rdB O fun x hx=>H.blk x (List.mem_cons_of_mem _ (List.mem_cons_of_mem _ hx))) U (by omega) (Qc hb52) 1 U (by decide) (by decide)) U ?_;rintro v w3 F;have hE:(BJ r++esB r i)++DX [x]=BJ r++esB r (i+1):=by { rw [hst]; unfold eB; rw [if_neg (by omega),if_neg h4,Ha,List.append_assoc] }
        rw [hE] at F;obtain ⟨a9,n9,c9,f9,rfl,O9,hb9⟩:=F.ex;obtain rfl:=OS.num O9;replace H:Ctx w0 [] w3 ([(b7,Bl 92 (Br e)),(b1,Bl 33 (A8 r q))]++ent a9 5 f9):=JF (L:=[(b7,Bl 92 (Br e)),(b1,Bl 33 (A8 r q))]) H F.ext hb9;refine A5 U U (Ab (A3 (A3 (Aa (Aw (Ao U U U (by omega) (by omega) ?_))))));refine Ae U U (Ab (Aa ?_));exact ⟨(i+1,a9,c9,f9),rfl,⟨rfl,rfl,trivial⟩,⟨by omega,H.tail,O9⟩,by dsimp only; omega⟩
     ·intro h2;replace h2:=AH h2;obtain rfl:i=r.es.length:=by omega
      have hbs:(BJ r++esB r r.es.length).length≤6000:=by have:=JD r r.es.length; rw [List.length_append,GC]; omega
      have hpl:0<r.pot.length:=by omega
      have hbl:(Fw r).length≤6200:=by unfold Fw; rw [List.length_append,Di]; omega
      have hnat:UInt32.size=4294967296:=rfl;refine Bc (Aj (Aj (AD (Aa (Ag (Ap U U (Ah U CW U (Ah U EU U (AA U BC U H at0 U (Al U Oq (JE a4 q.aP c4 q.cP _ (BJ r++esB r r.es.length) r.pot _ (OS.rdB O fun x hx=>H.blk x (List.mem_cons_of_mem _ hx)) U (by omega) (RP.ext0 H.ext) _ U (by omega) hpl) U ?_))))))))));rintro v w3 F;rw [show BJ r++esB r r.es.length++DX r.pot=Fw r from rfl] at F;obtain ⟨a4,n4,c4,f4,rfl,O,hb4⟩:=F.ex;obtain rfl:=OS.num O;replace H:Ctx w0 [] w3 ([(b1,Bl 33 (A8 r q))]++ent a4 5 f4):=JF (L:=[(b1,Bl 33 (A8 r q))]) H F.ext hb4;refine A5 U U (Ab (Aa (Ag (Ap U U (Al U Aau (Yi a4 c4 _ (Fw r) _ (OS.rdB O fun x hx=>H.blk x (List.mem_cons_of_mem _ hx)) U (by omega)) U ?_)))));rintro v w ⟨rfl,rfl⟩;refine Ad U U (Ab (Aa (Aq (Ag (Ae U U (Ab (Aa (Av ?_))))))));obtain ⟨s,hs⟩:∃ s,s=(PY (Fw r)).toNat:=⟨_,rfl⟩;have hs32:s<4294967296:=by rw [hs]; exact Gc _
      rw [← hs];refine Bd 331982480392570541499168609049510416 (α:=Nat × Option Addr × Nat × List Value) (fun z=>[(108,.int .i64 (z.1:Int)),(9,.int .u32 ((s / 2 ^ (8*z.1):Nat):Int)),(4,.slice z.2.1 ((Fw r).length+z.1) z.2.2.1)]) (fun z w'=>z.1≤4∧Ctx w0 [] w' ((b1,Bl 33 (A8 r q))::ent z.2.1 5 z.2.2.2)∧OS z.2.1 ((Fw r).length+z.1) z.2.2.1 1 z.2.2.2 ((Fw r++leB s z.1).map bv)) (fun z=>4 - z.1) (0,a4,c4,f4) U ?_ ?_ ?_
      ·exact ⟨rfl,by simp; rfl,rfl,trivial⟩
      ·exact ⟨Nat.zero_le _,H,by simpa [leB] using O⟩
      ·clear H O;rintro ⟨k,a4,c4,f4⟩ j w ⟨hk,H,O⟩; dsimp only at hk H O; dsimp only;refine Ag (AO U U U (Ab (Aa (Aq (Ay _ U ?_ ?_)))))
       ·intro h5;replace h5:=AG h5;refine Ax (Aa (Aq (Av (Ag (Ap U U (Ae U U (EK U U L5 Gj ?_)))))));rw [Fv];refine D4 _ (.int _ _) U C6 FO IZ U (by decide) (by decide) U U U H ?_;rintro b113 w - H;refine Dr (L:=[(b1,Bl 33 (A8 r q))]) U C6 C6 FO P0 IZ U (by decide) U U H O U (by simp [B4]) (by omega) ?_;rintro a9 c9 f9 w H O;refine A5 U U (Ab (Aa (Aw (Ae U U (GH (n:=8) U U U (by omega) ?_)))));refine Ad U U (Ab (A3 (Aa (Aw (Ao U U U (by omega) (by omega) ?_)))));refine Ae U U (Ab (Aa ?_));refine ⟨(k+1,a9,c9,f9),rfl,⟨rfl,congrArg (Value.int .u32) (by rw [Nat.div_div_eq_div_mul,← Nat.pow_add,Nat.mul_succ]),rfl,trivial⟩,⟨by omega,H,?_⟩,by dsimp only; omega⟩;dsimp only;have O':OS a9 ((Fw r).length+(k+1)) c9 1 f9 ((Fw r++leB s k).map bv++[UInt8.ofNat (s / 2 ^ (8*k))].map bv):=O;rw [← List.map_append,List.append_assoc,← Yn] at O';exact O'
       ·intro h5;replace h5:=AH h5;obtain rfl:k=4:=by omega
        refine Bc (Aj (Aj (AD (Aa (Ag (Ap U U (A5 U U (Ad U U (Ab (Aa (A9 (DG (v1:=(.slice _ _ _)) (v2:=(.int _ _)) U U U U ?_))))))))))));refine ⟨fun _=>⟨_,rfl,?_⟩,fun h=>(by rw [h1] at h; cases h)⟩;have hB:Fa r=Fw r++leB s 4:=by unfold Fa; rw [hs]
        rw [hB];exact Ctx.fresh (L:=[(b1,Bl 33 (A8 r q))]) H O
end Go.Proofs.YtapphbmlkdhnmaaGreat
