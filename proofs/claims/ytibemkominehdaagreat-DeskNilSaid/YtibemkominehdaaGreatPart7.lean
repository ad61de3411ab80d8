/- Part 7 of the proof. -/
import Derived.Test.YtibemkominehdaaGreatPart6
import Derived.Test.YtibemkominehdaaGreatPart3
import Derived.Test.YtibemkominehdaaGreatPart2
import Derived.Test.YtibemkominehdaaGreatPart5
namespace Go.Proofs.YtibemkominehdaaGreat
open Go.GV
attribute [local irreducible] Al W Wq Wt
abbrev RDU (ad:Option Addr) (m cd:Nat) (nx:Int):Obj:=Bl 155 [.slice ad m cd,.int .u64 nx]
abbrev RX (ba:Nat) (a:Option Addr) (n c:Nat) (full:List Value) (br:Nat) (ad:Option Addr) (m cd:Nat) (nx:Int) (fd:List Value):List (Nat × Obj):=(ba,Bl 109 [.slice a n c])::(br,RDU ad m cd nx)::(ent ad 163 fd++ent a 51 full)
structure RP7 where
 i:Nat
 ad:Option Addr
 cd:Nat
 fd:List Value
end Go.Proofs.YtibemkominehdaaGreat
namespace Go.Proofs.YtibemkominehdaaGreat
open Go.GV
attribute [local irreducible] Al W Wq Wt
structure Four where
 bx:Nat
 a:Option Addr
 c:Nat
 full:List Value
 bd:Nat
 b:Nat
 o:Obj
 ba:Nat
 ra:Option Addr
 rc:Nat
 rfull:List Value
 br:Nat
 ad:Option Addr
 cd:Nat
 fd:List Value
def Four.L (z:Four) (acs:List Ac) (ds:List Du) (nx:Int):List (Nat × Obj):=LX z.bx z.a acs.length z.c z.full z.bd z.b nx z.o++RX z.ba z.ra acs.length z.rc z.rfull z.br z.ad ds.length z.cd nx z.fd
structure Four.Ok (z:Four) (acs:List Ac) (ds:List Du):Prop where
 O:OS z.a acs.length z.c 2 z.full (acs.flatMap Cs)
 M:EG .u64 (dm ds) z.o
 RO:OS z.ra acs.length z.rc 2 z.rfull (acs.flatMap Cs)
 RD:OS z.ad ds.length z.cd 7 z.fd (ds.flatMap FW)
def VJ (acs:List Ac) (ds:List Du) (nx:Int):Bool:=decide (FE acs=0) && decide (ofC ds nx=0)
def BothRes (w:World) (acs:List Ac) (ds:List Du) (nx:Int) (v:Value) (w':World):Prop :=
 (VJ acs ds nx=false∧v = .tuple #[.pointer none,.pointer none,.pointer none,.pointer none,.bool false]∧Ext [] w w') ∨
  (VJ acs ds nx=true∧∃ z:Four,v = .tuple #[ptr z.bx,ptr z.bd,ptr z.ba,ptr z.br,.bool true]∧z.Ok acs ds∧Ctx w [] w' (z.L acs ds nx))
end Go.Proofs.YtibemkominehdaaGreat
namespace Go.Proofs.YtibemkominehdaaGreat
open Go.GV
attribute [local irreducible] Al W Wq Wt
theorem OC {α:Type} (B L R:List α):(B++(L++R)).Perm (L++(B++R)):=by
 classical exact List.perm_iff_count.2 fun x=>by simp only [List.count_append]; omega
theorem Ctx.mid {w0 w w':World} {S:List Nat} {B L L' R:List (Nat × Obj)} (H:Ctx w0 S w (B++(L++R))) (H':Ctx w (L.map (·.1)) w' L'):Ctx w0 S w' (B++(L'++R)) :=
 (Ctx.back (H.perm (OC B L R)) H').perm (OC B L' R).symm
theorem Ctx.in' {w0 w:World} {S:List Nat} {B L R:List (Nat × Obj)} (H:Ctx w0 S w (B++(L++R))):Ctx w (L.map (·.1)) w L:=Ctx.lend (H.perm (OC B L R))
theorem LX.ac {bx:Nat} {a:Option Addr} {c:Nat} {full:List Value} {bd b:Nat} {nx:Int} {o:Obj} {acs:List Ac} {w0 w:World} {S:List Nat} (H:Ctx w0 S w (LX bx a acs.length c full bd b nx o)) (O:OS a acs.length c 2 full (acs.flatMap Cs)):AcAt w 173 bx acs :=
 ⟨a,c,H.get at0,OS.rd O (fun x hx=>H.blk x (List.mem_cons_of_mem _ (List.mem_cons_of_mem _ (List.mem_cons_of_mem _ hx)))) (fun _ _=>rfl) (by decide)⟩
theorem LX.du {bx:Nat} {a:Option Addr} {n c:Nat} {full:List Value} {bd b:Nat} {nx:Int} {o:Obj} {ds:List Du} {w0 w:World} {S:List Nat} (H:Ctx w0 S w (LX bx a n c full bd b nx o)) (hM:EG .u64 (dm ds) o):DuAt w bd ds :=
 ⟨b,nx,o,H.get at1,H.get at2,hM⟩
theorem RX.ac {ba:Nat} {a:Option Addr} {c:Nat} {full:List Value} {br:Nat} {ad:Option Addr} {m cd:Nat} {nx:Int} {fd:List Value} {acs:List Ac} {w0 w:World} {S:List Nat} (H:Ctx w0 S w (RX ba a acs.length c full br ad m cd nx fd)) (O:OS a acs.length c 2 full (acs.flatMap Cs)):AcAt w 109 ba acs :=
 ⟨a,c,H.get at0,OS.rd O (fun x hx=>H.blk x (List.mem_cons_of_mem _ (List.mem_cons_of_mem _ (List.mem_append_right _ hx)))) (fun _ _=>rfl) (by decide)⟩
theorem RX.du {ba:Nat} {a:Option Addr} {n c:Nat} {full:List Value} {br:Nat} {ad:Option Addr} {cd:Nat} {nx:Int} {fd:List Value} {ds:List Du} {w0 w:World} {S:List Nat} (H:Ctx w0 S w (RX ba a n c full br ad ds.length cd nx fd)) (O:OS ad ds.length cd 7 fd (ds.flatMap FW)):RdAt w br ds :=
 ⟨ad,cd,nx,H.get at1,OS.rd O (fun x hx=>H.blk x (List.mem_cons_of_mem _ (List.mem_cons_of_mem _ (List.mem_append_left _ hx)))) (fun _ _=>rfl) (by decide)⟩
theorem ROff.old {w0 w:World} {S:List Nat} {L:List (Nat × Obj)} {q:RSl} {r:Rnd} (H:Ctx w0 S w L) (h:ROff q r (fun x=>x<w.heap.size)):ROff q r (·∈L.map (·.1)) :=
 h.mono fun x hx=>by
  obtain ⟨y,hy,rfl⟩:=List.mem_map.1 hx;exact Bq (H.blk y hy)
structure RBnd (r:Rnd):Prop where
 N:I64 r.N
 es:r.es.length≤1000000
 ids:r.ids.length≤1000000
 fl:r.fl.length≤1000000
 pot:r.pot.length≤1000000
theorem UY {a:Option Addr} {t:TypeId} {f g:List Value}:(ent a t f).map (·.1)=(ent a t g).map (·.1):=by cases a <;> rfl
abbrev xA0:List Ac:=[⟨5,0⟩,⟨0,0⟩]
abbrev xA1:List Ac:=[⟨0,0⟩,⟨5,0⟩]
abbrev xD0:List Du:=[⟨1,0,1,9,1,1,false⟩]
abbrev xD1:List Du:=[⟨1,0,1,4,1,1,false⟩]
abbrev xE0:List Ed:=[⟨0,1,9,-1⟩,⟨2,0,5,0⟩,⟨0,2,4503599627370496,0⟩,⟨2,1,0,0⟩,⟨1,2,4503599627370496,0⟩]
end Go.Proofs.YtibemkominehdaaGreat
namespace Go.Proofs.YtibemkominehdaaGreat
open Go.GV
attribute [local irreducible] Al W Wq Wt
structure Lm where
 bl:Nat
 ba:Nat
 bd:Nat
 br:Nat
 b:Nat
 a:Option Addr
 c:Nat
 full:List Value
 o:Obj
 arch:List Value
abbrev LL (m:Lm) (s:Ld):List (Nat × Obj):=(m.bl,Bl 132 [ptr m.ba,ptr m.bd,ptr m.br,.int .i64 s.day])::(m.br,Bl 179 m.arch)::LX m.ba m.a s.acs.length m.c m.full m.bd m.b s.nx m.o
abbrev DA (m:Lm) (s:Ld):List Nat:=(LL m s).map fun x=>x.1
def KIn (w:World) (arch:List Value) (r:Rnd) (T:Nat→Prop):Prop :=
 ∃ q,(∀ j v,(BL r q)[j]? = some v→arch[(r.no % 4).toNat*8+j]? = some v)∧RAt w r q∧ROff q r T
structure LdIn (w:World) (m:Lm) (s:Ld) (T:Nat→Prop):Prop where
 O:OS m.a s.acs.length m.c 2 m.full (s.acs.flatMap Cs)
 M:EG .u64 (dm s.ds) m.o
 ok:s.Ok
 len:m.arch.length=34
 n:m.arch[32]? = some (.int .u64 s.rn.length)
 no:m.arch[33]? = some (.int .u64 s.no)
 kept:∀ r∈s.rn,KIn w m.arch r T
 own:∀ x∈DA m s,T x
 low:∀ x,T x→x<w.heap.size
abbrev BW (k:Ak):List Value:=[.int .u8 k.kd,.int .i64 k.a,.int .i64 k.b,.int .i64 k.x,.int .i64 k.w,.int .i64 k.u,.int .u64 k.id]
theorem Ctx.acs7 {w0 w w':World} {S:List Nat} {P:List (Nat × Obj)} {a:Option Addr} {t:TypeId} {full full':List Value} (H:Ctx w0 S w (P++ent a t full)) (he:Ext ((ent a t full).map fun x=>x.1) w w') (hb:∀ x∈ent a t full',w'.heap[x.1]? = some x.2):Ctx w0 S w' (P++ent a t full'):=by
 have h1:Ctx w ((ent a t full).map fun x=>x.1) w' (ent a t full'):=⟨he,hb,DO,fun x hx => .inl (by
  rw [UY (f:=full) (g:=full')]
  exact List.mem_map_of_mem (f:=fun x:Nat × Obj=>x.1) hx)⟩
 exact (Ctx.back H.comm h1).comm
theorem LdIn.turn {w w':World} {m m':Lm} {s s':Ld} {T:Nat→Prop} {S:List Nat} (I:LdIn w m s T) (he:Ext S w w') (hs:∀ x∈S,T x) (O:OS m'.a s'.acs.length m'.c 2 m'.full (s'.acs.flatMap Cs)) (M:EG .u64 (dm s'.ds) m'.o) (ok:s'.Ok) (ha:m'.arch=m.arch) (hr:s'.rn=s.rn) (hn:s'.no=s.no) (hid:∀ x∈DA m' s',(T x∨w.heap.size≤x)∧x<w'.heap.size) :
  LdIn w' m' s' (fun x=>T x∨x∈DA m' s') where
 O:=O
 M:=M
 ok:=ok
 len:=by rw [ha]; exact I.len
 n:=by rw [ha,hr]; exact I.n
 no:=by rw [ha,hn]; exact I.no
 kept:=fun r h=>by
  rw [hr] at h;obtain ⟨q,h1,h2,h3⟩:=I.kept r h;rw [ha];exact ⟨q,h1,h2.ext he (h3.mono hs),(h3.or h2.lt).mono fun x hx=>hx.elim .inl fun hx=>(hid x hx).1⟩
 own:=fun x hx => .inr hx
 low:=fun x hx=>hx.elim (fun h=>Nat.lt_of_lt_of_le (I.low x h) he.size) fun h=>(hid x h).2
def Np (w:World) (m:Lm) (s:Ld) (T:Nat→Prop) (k:Ak) (v:Value) (w':World):Prop :=
 ∃ a n c full code l s' m',v = .tuple #[.slice a n c,.int .i64 code]∧OS a n c 1 full (l.map Eb)∧CV s k s' (rp l code)∧Ctx w (DA m s) w' (LL m' s'++ent a 2 full)∧(∀ x∈ent a 2 full,w.heap.size≤x.1)∧LdIn w' m' s' (fun x=>T x∨x∈DA m' s')∧m'.bl=m.bl
theorem Mg {w w1 w':World} {m m':Lm} {s s':Ld} {T:Nat→Prop} {k:Ak} {P:List (Nat × Obj)} {a:Option Addr} {n c:Nat} {code:Int} {l:List Int} (I:LdIn w m s T) (H:Ctx w (DA m s) w1 (P++LL m' s')) (F:Fresh w1 w' 2 1 (.slice a n c) (l.map Eb)) (hst:CV s k s' (rp l code))
  (O:OS m'.a s'.acs.length m'.c 2 m'.full (s'.acs.flatMap Cs)) (M:EG .u64 (dm s'.ds) m'.o) (ok:s'.Ok) (ha:m'.arch=m.arch) (hr:s'.rn=s.rn) (hn:s'.no=s.no) (hbl:m'.bl=m.bl):Np w m s T k (.tuple #[.slice a n c,.int .i64 code]) w':=by
 obtain ⟨a',n',c',full,hv,OF,hb⟩:=F.ex;cases hv;have H1:Ctx w (DA m s) w1 (LL m' s'):=H.right;have H2:=H1.callEnt F.ext hb DO;refine ⟨a,n,c,full,code,l,s',m',rfl,OF,hst,H2,fun x hx=>Nat.le_trans H1.size (hb x hx).2,I.turn H2.ext I.own O M ok ha hr hn fun x hx=>?_,hbl⟩;obtain ⟨y,hy,rfl⟩:=List.mem_map.1 hx;exact ⟨(H1.own y hy).imp_left (I.own _),Bq (H2.left.blk y hy)⟩
end Go.Proofs.YtibemkominehdaaGreat
namespace Go.Proofs.YtibemkominehdaaGreat
open Go.GV
attribute [local irreducible] Al W Wq Wt
structure AkIn (k:Ak):Prop where
 kd:0≤k.kd∧k.kd≤255
 a:I64 k.a
 b:I64 k.b
 x:I64 k.x
 w:I64 k.w
 u:I64 k.u
 id:0≤k.id∧k.id≤18446744073709551615
theorem Mi {w0 w:World} {b:Nat} {t:TypeId} {l:List Value} {n:Nat} {L:List (Nat × Obj)} (H:Ctx w0 [] w ((b,Bl t l)::L)) (hn:l.length=n):Fresh w0 w t 1 (.slice (some ⟨b,0,none⟩) n n) l:=by
 subst hn;refine ⟨⟨some ⟨b,0,none⟩,l.length,l.length,l,rfl,⟨fun p hp=>?_,fun h=>?_,by rw [Nat.mul_one],Nat.le_refl _,by rw [Nat.mul_one,List.take_length]⟩,fun x hx=>?_⟩,H.ext⟩
 ·cases hp; rfl
 ·cases h
 ·rw [List.mem_singleton.1 hx];exact ⟨H.get at0,(H.own _ (List.mem_cons_self ..)).elim (fun h=>by cases h) id⟩
set_option maxRecDepth 20000 in
set_option maxHeartbeats 1000000 in
theorem PS {bl ba c:Nat} {v1 v2 v3:Value} {a:Option Addr} {acs:List Ac} (k e:Int) (w:World) (hl:w.heap[bl]? = some (Bl 132 [ptr ba,v1,v2,v3])) (hd:AcB ba a acs.length c w) (R:Rd w a 2 Cs acs)  (hn:acs.length≤1000000:=by omega):
  Ret Tryz.prog 94 #[ptr bl,.int .i64 k,.int .i64 e] w fun v w'=>∃ a' c',v = .tuple #[.slice a' 2 c',.int .i64 (if e=0∧inA acs k=false then 10 else e)]∧Fresh w w' 2 1 (.slice a' 2 c') ((JO acs k).map Eb):=by
 obtain ⟨w0,rfl⟩:∃ w0,w0=w:=⟨_,rfl⟩;have H:=Ctx.start w0 [];refine Au (fn:=Tryz.f94) Tryz.func94 U [.pointer (some ⟨bl,0,none⟩),.int .i64 k,.int .i64 e] U ?_;refine Ag (Aj U (Ae U (Ab (Aa (Ag (AA U (Bb U (Ah GY U (BN HM U ((H.old (A6 hl _) (by simp))) ?_)))))))));refine Ad U (Ai VZ (UP a _ c acs k _ (H.ext.to hd (by simp)) (R.ext0 H.ext) U hn) U ?_);rintro v w ⟨rfl,hx16⟩;replace H:=H.call hx16;refine C9 U (AO U U (AO U U (B5 I8 H ?_)));rintro b8 w - H;refine BB Dj U U U (by simp [AR]) H at0 U ?_;rintro w H;refine Am U (Ab (Aa (Ax (Ag (CK (α:=Unit) 33030144 (fun _=>[(24,.bool (decide (e=0) && !inA acs k))]) (fun _ w'=>Ctx w0 [] w' [(b8,Bl 51 (Cs (Cx acs k)))]) U ?_ ?_)))))
 ·refine Ad U (Cp U U (Ap U (AZ 21 U ?_ ?_)))
  ·intro h1;replace h1:=AX h1;refine Ap U (C7 U (Av U (.bool _) U (Ab ?_)));exact ⟨rfl,(),rfl,⟨congrArg Value.bool (by rw [Bool.eq_iff_iff]; simp_all; try omega),trivial⟩,H⟩
  ·intro h2;replace h2:=AY h2;refine Af U (Af U (AE U (.bool _) U (Ab ?_)));exact ⟨rfl,(),rfl,⟨congrArg Value.bool (by rw [Bool.eq_iff_iff]; simp_all; try omega),trivial⟩,H⟩
 rintro - j24 w H;refine Ay _ U ?_ ?_
 ·intro h1;rw [Bool.and_eq_true,decide_eq_true_eq,Bool.not_eq_true'] at h1;rw [if_pos h1];refine A5 (Ae U (Ab (Aa (Ag (Ah Fm U (AH CT U H at0 U (Ah Pt U (AH CT U H at0 U (Gi [.int .i64 (Cx acs k).ba,.int .i64 (Cx acs k).re] U Ch Ez Kj H ?_)))))))));rintro b29 w - H;refine Ad U (Aj U (Ae U (Ab (Aa (A9 (C6 (v1:=(.slice _ _ _)) (v2:=(.int _ _)) U U U U ?_))))));exact ⟨_,_,rfl,Mi H rfl⟩
 ·intro h1;rw [if_neg (fun h=>by rw [h.2,decide_eq_true h.1] at h1; cases h1)];refine A2 (Aa (Ag (Ah Fm U (AH CT U H at0 U (Ah Pt U (AH CT U H at0 U (Gi [.int .i64 (Cx acs k).ba,.int .i64 (Cx acs k).re] U Ch Ez Kj H ?_)))))));rintro b29 w - H;refine Ad U (Aj U (Ae U (Ab (Aa (A9 (C6 (v1:=(.slice _ _ _)) (v2:=(.int _ _)) U U U U ?_))))));exact ⟨_,_,rfl,Mi H rfl⟩
set_option maxRecDepth 20000 in
set_option maxHeartbeats 1000000 in
theorem TP {m:Lm} {s:Ld} {T:Nat→Prop} {k:Ak} (hk:k.kd=2) (hin:AkIn k) (w:World) (I:LdIn w m s T) (H0:Ctx w (DA m s) w (LL m s)) :
  Ret Tryz.prog 54 #[ptr m.bl,.agg (BW k).toArray] w (Np w m s T k):=by
 obtain ⟨w0,rfl⟩:∃ w0,w0=w:=⟨_,rfl⟩;obtain ⟨bl,ba,bd,br,b,a,c,full,o,arch⟩:=m;obtain ⟨S0,hS0⟩:∃ S,S=DA ⟨bl,ba,bd,br,b,a,c,full,o,arch⟩ s:=⟨_,rfl⟩;have H:Ctx w0 S0 w0 ((bl,Bl 132 [ptr ba,ptr bd,ptr br,.int .i64 s.day])::(br,Bl 179 arch)::(ba,Bl 173 [.slice a s.acs.length c])::(bd,Bl 176 (DU b s.nx))::(b,o)::ent a 51 full):=by rw [hS0]; exact H0
 have hn16:=(CU.1 I.ok.ac).1;obtain ⟨hok,hlen,-⟩:=PM I.ok.ac k.a k.x;have hoth:IJ s k={ s with acs:=Cy s.acs k.a k.x }:=by unfold IJ; rw [if_neg (by omega),if_pos hk]
 have hokS:({ s with acs:=Cy s.acs k.a k.x }:Ld).Ok:=by rw [← hoth]; exact TI I.ok k hin.u.2
 have hstep:CV s k { s with acs:=Cy s.acs k.a k.x } (rp (JO (Cy s.acs k.a k.x) k.a) (Dd s.acs k.a k.x)):=by
  unfold CV;rw [if_neg (by omega)];exact ⟨hoth.symm,by unfold Mf; rw [if_neg (by omega),if_pos hk]⟩
 have hcode:(if Dd s.acs k.a k.x=0∧inA (Cy s.acs k.a k.x) k.a=false then 10 else Dd s.acs k.a k.x)=Dd s.acs k.a k.x:=by
  rw [if_neg];rintro ⟨h1,h2⟩
  rcases GF s.acs k.a k.x with ⟨h3,-⟩ | ⟨-,h4,-⟩
  ·exact h3 h1
  ·have h5:inA (Cy s.acs k.a k.x) k.a=inA s.acs k.a:=by unfold inA; rw [hlen]
   rw [h5,h4] at h2;cases h2
 refine Au (fn:=Tryz.f54) Tryz.func54 U [.pointer (some ⟨bl,0,none⟩),.agg (BW k).toArray] U ?_;refine Ag (BK (BW k) (.agg _) U U H ?_);rintro b3 w - H;refine Aj U (Ae U (Ab (Aa (BT [([0,1,2,3,4,5,6,7,8,9,10],11),([],12),([13,14,15],16)] (fun z=>z.heap[b3]? = some (Bl 34 (BW k))∧z.heap[bl]? = some (Bl 132 [ptr ba,ptr bd,ptr br,.int .i64 s.day])) [] Bz (⟨H.drew.get at0,H.drew.get at1⟩) ?_))));refine A0 U U ?_;refine Cw U (A8 DE U (BE ER U (fun _ hx=>(by rw [A6 hx.1]; rfl)) ?_));refine Cw U (BF U (A8 GY U (BE HM U (fun _ hx=>(by rw [A6 hx.2]; rfl)) ?_)));refine A8 DE U (BE ER U (fun _ hx=>(by rw [A6 hx.1]; rfl)) ?_);refine A8 IV U (BE CT U (fun _ hx=>(by rw [A6 hx.1]; rfl)) ?_);refine Ba ?_;replace H:=H.drew;refine Ai ca_95 (TO _ (H.get at3) I.O (fun y hy=>H.blk y (List.mem_append_right [_,_,_,_,_,_] hy)) I.ok.ac) U ?_
 rintro v w ⟨rfl,full',O',hb',he'⟩;replace H:Ctx w0 S0 w ((b3,Bl 34 (BW k))::(bl,Bl 132 [ptr ba,ptr bd,ptr br,.int .i64 s.day])::(br,Bl 179 arch)::(ba,Bl 173 [.slice a (Cy s.acs k.a k.x).length c])::(bd,Bl 176 (DU b s.nx))::(b,o)::ent a 51 full'):=(by rw [hlen]; exact Ctx.acs7 (P:=[_,_,_,_,_,_]) H he' hb');replace O':OS a (Cy s.acs k.a k.x).length c 2 full' ((Cy s.acs k.a k.x).flatMap Cs):=(by rw [hlen]; exact O');refine Ab (B1 (⟨H.get at0,H.get at1⟩) (A0 U U ?_));refine Ba (Ai Vz (PS k.a _ _ (H.get at1) (H.get at3) (OS.rd (t:=51) O' (fun y hy=>H.blk y (List.mem_append_right [_,_,_,_,_,_] hy)) (fun _ _=>rfl) (by decide))) U ?_);rintro v w ⟨a',c',rfl,F⟩;rw [hcode];have H8:=H;replace H:=H.call F.ext;refine Ab (B1 (⟨H.get at0,H.get at1⟩) (A0 U U ?_))
 refine C8 U U (C8 U U (K5 U U (Ba (Ae U (Ab (B1 (⟨H.get at0,H.get at1⟩) (B6 (A9 (C6 (v1:=(.slice _ _ _)) (v2:=(.int _ _)) U U U U ?_)))))))));subst hS0;exact Mg (P:=[_]) (m':=⟨bl,ba,bd,br,b,a,c,full',o,arch⟩) (s':={ s with acs:=Cy s.acs k.a k.x }) I H8 F hstep O' I.M hokS U U U U
end Go.Proofs.YtibemkominehdaaGreat
namespace Go.Proofs.YtibemkominehdaaGreat
open Go.GV
attribute [local irreducible] Al W Wq Wt
abbrev Hq (k:Nat):Prop:=k=1∨k=2∨k=4∨k=8
theorem Ii {k:Nat} (hk:Hq k) (l:List UInt8) (n:Nat):putB l n (k:Int)=l++Bh n k:=by
 rcases hk with rfl | rfl | rfl | rfl <;> rfl
theorem Eg {n:Nat} (h:n<18446744073709551616:=by omega):w64 (n:Int)=n:=by unfold w64; omega
theorem IE (a:Option Addr) (c m:Nat) (l:List UInt8) (x:Int) (k:Nat) (w:World) (R:Rd w a 1 B8 l) (hml:l.length=m)  (hm:m≤1000000:=by decide) (hk:Hq k:=by decide):
  Ret Tryz.prog 76 #[.slice a m c,.int .u32 x,.int .i64 (k:Int)] w fun v w'=>Fresh w w' 5 1 v ((l++Bh (w64 x) k).map bv):=by
 obtain ⟨w0,rfl⟩:∃ w0,w0=w:=⟨_,rfl⟩;have H:=Ctx.start w0 [];refine Au (fn:=Tryz.f76) Tryz.func76 U [.slice a m c,.int .u32 x,.int .i64 (k:Int)] U ?_;refine Ag (Aj U (Ab (Aa (Ag (An U U (Ad U (CF U MR CH ?_)))))));rw [D1];refine Ad U (Ai HN (Ic a c m l (w64 x) (k:Int) _ (R.ext0 H.ext) hml (EJ x)) U ?_);rintro v w F;rw [Ii hk] at F;obtain ⟨a99,c99,rfl,-,-⟩:=Fresh.rdB F;refine Aj U (Ab (Aa (A9 (AD (v:=(.slice _ _ _)) U U U ?_))));exact Fresh.since F H.ext
theorem FZ (a:Option Addr) (c m:Nat) (l:List UInt8) (x:Int) (k:Nat) (w:World) (R:Rd w a 1 B8 l) (hml:l.length=m) (hm:m≤1000000)  (hk:Hq k:=by decide):
  Ret Tryz.prog 77 #[.slice a m c,.int .i64 x,.int .i64 (k:Int)] w fun v w'=>Fresh w w' 5 1 v ((l++Bh (w64 x) k).map bv):=by
 obtain ⟨w0,rfl⟩:∃ w0,w0=w:=⟨_,rfl⟩;have H:=Ctx.start w0 [];refine Au (fn:=Tryz.f77) Tryz.func77 U [.slice a m c,.int .i64 x,.int .i64 (k:Int)] U ?_;refine Ag (Aj U (Ab (Aa (Ag (An U U (Ad U (CF U E0 CH ?_)))))));rw [D1];refine Ad U (Ai HN (Ic a c m l (w64 x) (k:Int) _ (R.ext0 H.ext) hml (EJ x)) U ?_);rintro v w F;rw [Ii hk] at F;obtain ⟨a99,c99,rfl,-,-⟩:=Fresh.rdB F;refine Aj U (Ab (Aa (A9 (AD (v:=(.slice _ _ _)) U U U ?_))));exact Fresh.since F H.ext
theorem OD (a:Option Addr) (c m:Nat) (l:List UInt8) (x:Int) (k:Nat) (w:World) (R:Rd w a 1 B8 l) (hml:l.length=m)  (hm:m≤1000000:=by omega) (hk:Hq k:=by decide):
  Ret Tryz.prog 78 #[.slice a m c,.int .u8 x,.int .i64 (k:Int)] w fun v w'=>Fresh w w' 5 1 v ((l++Bh (w64 x) k).map bv):=by
 obtain ⟨w0,rfl⟩:∃ w0,w0=w:=⟨_,rfl⟩;have H:=Ctx.start w0 [];refine Au (fn:=Tryz.f78) Tryz.func78 U [.slice a m c,.int .u8 x,.int .i64 (k:Int)] U ?_;refine Ag (Aj U (Ab (Aa (Ag (An U U (Ad U (CF U Er CH ?_)))))));rw [D1];refine Ad U (Ai HN (Ic a c m l (w64 x) (k:Int) _ (R.ext0 H.ext) hml (EJ x)) U ?_);rintro v w F;rw [Ii hk] at F;obtain ⟨a99,c99,rfl,-,-⟩:=Fresh.rdB F;refine Aj U (Ab (Aa (A9 (AD (v:=(.slice _ _ _)) U U U ?_))));exact Fresh.since F H.ext
theorem ED (a:Option Addr) (c m:Nat) (l:List UInt8) (x:Int) (k:Nat) (w:World) (R:Rd w a 1 B8 l) (hml:l.length=m) (hm:m≤1000000)  (hk:Hq k:=by decide):
  Ret Tryz.prog 79 #[.slice a m c,.int .i64 x,.int .i64 (k:Int)] w fun v w'=>Fresh w w' 5 1 v ((l++Bh (w64 x) k).map bv):=by
 obtain ⟨w0,rfl⟩:∃ w0,w0=w:=⟨_,rfl⟩;have H:=Ctx.start w0 [];refine Au (fn:=Tryz.f79) Tryz.func79 U [.slice a m c,.int .i64 x,.int .i64 (k:Int)] U ?_;refine Ag (Aj U (Ab (Aa (Ag (An U U (Ad U (CF U Ki CH ?_)))))));rw [D1];refine Ad U (Ai HN (Ic a c m l (w64 x) (k:Int) _ (R.ext0 H.ext) hml (EJ x)) U ?_);rintro v w F;rw [Ii hk] at F;obtain ⟨a99,c99,rfl,-,-⟩:=Fresh.rdB F;refine Aj U (Ab (Aa (A9 (AD (v:=(.slice _ _ _)) U U U ?_))));exact Fresh.since F H.ext
theorem QN (a:Option Addr) (c m:Nat) (l:List UInt8) (x:Int) (k:Nat) (w:World) (R:Rd w a 1 B8 l) (hml:l.length=m)  (hm:m≤1000000:=by omega) (hk:Hq k:=by decide):
  Ret Tryz.prog 92 #[.slice a m c,.int .i64 x,.int .i64 (k:Int)] w fun v w'=>Fresh w w' 5 1 v ((l++Bh (w64 x) k).map bv):=by
 obtain ⟨w0,rfl⟩:∃ w0,w0=w:=⟨_,rfl⟩;have H:=Ctx.start w0 [];refine Au (fn:=Tryz.f92) Tryz.func92 U [.slice a m c,.int .i64 x,.int .i64 (k:Int)] U ?_;refine Ag (Aj U (Ab (Aa (Ag (An U U (Ad U (CF U V5 CH ?_)))))));rw [D1];refine Ad U (Ai HN (Ic a c m l (w64 x) (k:Int) _ (R.ext0 H.ext) hml (EJ x)) U ?_);rintro v w F;rw [Ii hk] at F;obtain ⟨a99,c99,rfl,-,-⟩:=Fresh.rdB F;refine Aj U (Ab (Aa (A9 (AD (v:=(.slice _ _ _)) U U U ?_))));exact Fresh.since F H.ext
theorem Ga (a:Option Addr) (c m:Nat) (l:List UInt8) (x:Int) (k:Nat) (w:World) (R:Rd w a 1 B8 l) (hml:l.length=m) (hm:m≤1000000)  (hk:Hq k:=by decide) (hx:0≤x∧x<18446744073709551616:=by omega):
  Ret Tryz.prog 75 #[.slice a m c,.int .u64 x,.int .i64 (k:Int)] w fun v w'=>Fresh w w' 5 1 v ((l++Bh (w64 x) k).map bv):=by
 obtain ⟨n,rfl⟩:∃ n:Nat,x=n:=⟨x.toNat,by omega⟩;rw [Eg];obtain ⟨w0,rfl⟩:∃ w0,w0=w:=⟨_,rfl⟩;have H:=Ctx.start w0 [];refine Au (fn:=Tryz.f75) Tryz.func75 U [.slice a m c,.int .u64 (n:Int),.int .i64 (k:Int)] U ?_;refine Ag (Aj U (Ab (Aa (Ag (An U U (Ad U (Ad U (Ai HN (Ic a c m l n (k:Int) _ (R.ext0 H.ext) hml (by omega)) U ?_))))))));rintro v w F;rw [Ii hk] at F;obtain ⟨a99,c99,rfl,-,-⟩:=Fresh.rdB F;refine Aj U (Ab (Aa (A9 (AD (v:=(.slice _ _ _)) U U U ?_))));exact Fresh.since F H.ext
set_option maxRecDepth 20000 in
set_option maxHeartbeats 2000000 in
theorem QO (c n:Nat) (k:Ak) (w:World) (hc:c<4294967296) (hn:n<18446744073709551616) (h:MayB k) :
  Ret Tryz.prog 39 #[.int .u32 (c:Int),.int .u64 (n:Int),.agg (BW k).toArray] w fun v w'=>∃ s,v = .tuple #[s,.int .i64 0]∧Fresh w w' 5 1 s ((CC c n k).map bv):=by
 obtain ⟨w0,rfl⟩:∃ w0,w0=w:=⟨_,rfl⟩;have H:=Ctx.start w0 [];obtain ⟨h1,h2,h3,h4,h5,h6,h7⟩:=h;refine Au (fn:=Tryz.f39) Tryz.func39 U [.int .u32 (c:Int),.int .u64 (n:Int),.agg (BW k).toArray] U ?_;refine Ag (BK (BW k) (.agg _) U U H ?_);rintro b5 w - H;refine Aj U (Ae U (Ab (Aa (Ax (Ag (CK (α:=Unit) 137438952960 (fun _=>[(36,.bool ((((((decide (k.a<0) || decide (k.a>255)) || decide (k.b < -32768)) || decide (k.b≥32768)) || decide (k.w<0)) || decide (k.w≥65536))))]) (fun _ w'=>Ctx w0 [] w' [(b5,Bl 34 (BW k))]) U ?_ ?_))))))
 ·refine Ah DE U (AH ER U H at0 U (Bu U U (Ap U (AZ 12 U ?_ ?_))))
  ·intro h1;replace h1:=AX h1;refine Af U (Af U (Af U (Av U (.bool _) U (Ap U (Af U (Af U (Af U (Av U (.bool _) U (Ap U ?_)))))))));refine Af U (Af U (Af U (Av U (.bool _) U (Ap U (Af U (Af U (Af U (Av U (.bool _) U (Ap U ?_)))))))));refine Af U (Af U (Af U (Av U (.bool _) U (Ab ?_))));exact ⟨rfl,(),rfl,⟨congrArg Value.bool (by (rw [Bool.eq_iff_iff]; simp only [Bool.or_eq_true,decide_eq_true_eq,true_iff]; omega)),trivial⟩,H⟩
  ·intro h2;replace h2:=AY h2;refine Ah DE U (AH ER U H at0 U (CP U U (AE U (.bool _) U (Ap U (AZ 17 U ?_ ?_)))))
   ·intro h3;replace h3:=AX h3;refine Af U (Af U (Af U (Av U (.bool _) U (Ap U (Af U (Af U (Af U (Av U (.bool _) U (Ap U ?_)))))))));refine Af U (Af U (Af U (Av U (.bool _) U (Ap U (Af U (Af U (Af U (Av U (.bool _) U (Ab ?_)))))))));exact ⟨rfl,(),rfl,⟨congrArg Value.bool (by (rw [Bool.eq_iff_iff]; simp only [Bool.or_eq_true,decide_eq_true_eq,true_iff]; omega)),trivial⟩,H⟩
   ·intro h4;replace h4:=AY h4;refine Ah Fk U (AH ER U H at0 U (Bu U U (AE U (.bool _) U (Ap U (AZ 22 U ?_ ?_)))))
    ·intro h5;replace h5:=AX h5;refine Af U (Af U (Af U (Av U (.bool _) U (Ap U (Af U (Af U (Af U (Av U (.bool _) U (Ap U ?_)))))))));refine Af U (Af U (Af U (Av U (.bool _) U (Ab ?_))));exact ⟨rfl,(),rfl,⟨congrArg Value.bool (by (rw [Bool.eq_iff_iff]; simp only [Bool.or_eq_true,decide_eq_true_eq,true_iff]; omega)),trivial⟩,H⟩
    ·intro h6;replace h6:=AY h6;refine Ah Fk U (AH ER U H at0 U (Ci U U (AE U (.bool _) U (Ap U (AZ 27 U ?_ ?_)))))
     ·intro h7;replace h7:=AX h7;refine Af U (Af U (Af U (Av U (.bool _) U (Ap U (Af U (Af U (Af U (Av U (.bool _) U (Ab ?_)))))))));exact ⟨rfl,(),rfl,⟨congrArg Value.bool (by (rw [Bool.eq_iff_iff]; simp only [Bool.or_eq_true,decide_eq_true_eq,true_iff]; omega)),trivial⟩,H⟩
     ·intro h8;replace h8:=AY h8;refine Ah Fl U (AH CT U H at0 U (Bu U U (AE U (.bool _) U (Ap U (AZ 32 U ?_ ?_)))))
      ·intro h9;replace h9:=AX h9;refine Af U (Af U (Af U (Av U (.bool _) U (Ab ?_))));exact ⟨rfl,(),rfl,⟨congrArg Value.bool (by (rw [Bool.eq_iff_iff]; simp only [Bool.or_eq_true,decide_eq_true_eq,true_iff]; omega)),trivial⟩,H⟩
      ·intro h10;replace h10:=AY h10;refine Ah Fl U (AH CT U H at0 U (Ci U U (AE U (.bool _) U (Ab ?_))));exact ⟨rfl,(),rfl,⟨congrArg Value.bool (by (rw [Bool.eq_iff_iff]; simp only [Bool.or_eq_true,decide_eq_true_eq]; omega)),trivial⟩,H⟩
 rintro - j36 w H;refine Ay _ U ?_ ?_
 ·intro g1;exfalso;simp at g1;omega
 ·intro g1;clear g1;refine A2 (Aa (Ag (Ad U (Ai Vy (IE none 0 0 [] c 4 _ Rd.nil U) U ?_))));rintro v w F;rw [Eg,List.nil_append] at F;replace H:=H.call F.ext;obtain ⟨a38,c38,rfl,R38,-⟩:=Fresh.rdB F;refine Ad U (Ai Sv (Ga a38 c38 _ _ (n:Int) 8 _ R38 U (by simp [Bg])) U ?_);rintro v w F;rw [Eg (h:=hn)] at F;replace H:=H.call F.ext;obtain ⟨a40,c40,rfl,R40,-⟩:=Fresh.rdB F;refine Aj U (Ab (Aa ?_));obtain ⟨l4,hl4⟩:∃ l4,l4=Bh c 4++Bh n 8:=⟨_,rfl⟩;rw [← hl4] at R40 ⊢;have hn4:l4.length=12:=by rw [hl4]; simp [Bg]
  refine BT [([0,1,2,4,5,7,8],3),([],6),([],9),([],10)] (fun z=>(Ext [] w0 z∧z.heap[b5]? = some (Bl 34 (BW k)))) [] Bz (⟨H.drew.ext,H.drew.get at0⟩) ?_;refine A0 U U ?_;refine AM U (A8 Fj U (BE GS U (fun _ hx=>(by rw [A6 hx.2]; rfl)) ?_));refine A8 DE U (BE ER U (fun _ hx=>(by rw [A6 hx.2]; rfl)) ?_);refine A8 Fk U (BE ER U (fun _ hx=>(by rw [A6 hx.2]; rfl)) ?_);refine Ba ?_;replace R40:=R40.ext0 (Ext.drew [] _); replace H:=H.drew;refine Ai ca_78 (OD a40 c40 _ l4 k.kd 1 _ R40 U) U ?_;rintro v w F;replace H:=H.call F.ext;obtain ⟨a44,c44,rfl,R44,-⟩:=Fresh.rdB F;refine Ab (B1 (⟨H.ext,H.get at0⟩) (A0 U U ?_));refine Ba (Ai Sx (FZ a44 c44 _ _ k.a 1 _ R44 U (by simp [Bg]; omega)) U ?_);rintro v w F;replace H:=H.call F.ext;obtain ⟨a47,c47,rfl,R47,-⟩:=Fresh.rdB F;refine Ab (B1 (⟨H.ext,H.get at0⟩) (A0 U U ?_))
  refine Ba (Ai Sx (FZ a47 c47 _ _ k.b 2 _ R47 U (by simp [Bg]; omega)) U ?_);rintro v w F;replace H:=H.call F.ext;obtain ⟨a50,c50,rfl,R50,-⟩:=Fresh.rdB F;refine Ab (B1 (⟨H.ext,H.get at0⟩) (A0 U U ?_));refine Ba (Aj U (Ab (B1 (⟨H.ext,H.get at0⟩) (B6 ?_))));obtain ⟨l5,hl5⟩:∃ l5,l5=l4++Bh (w64 k.kd) 1++Bh (w64 k.a) 1++Bh (w64 k.b) 2:=⟨_,rfl⟩;rw [← hl5] at R50 ⊢;have hn5:l5.length=16:=by rw [hl5]; simp [Bg,hn4]
  refine BT [([0,1,2,4,5,7,8,10,11],3),([],6),([],9),([],12),([13],14)] (fun z=>(Ext [] w0 z∧z.heap[b5]? = some (Bl 34 (BW k)))) [] Bz (⟨H.drew.ext,H.drew.get at0⟩) ?_;refine A0 U U ?_;refine AM U (A8 IV U (BE CT U (fun _ hx=>(by rw [A6 hx.2]; rfl)) ?_));refine A8 Fl U (BE CT U (fun _ hx=>(by rw [A6 hx.2]; rfl)) ?_);refine A8 L6 U (BE CT U (fun _ hx=>(by rw [A6 hx.2]; rfl)) ?_);refine A8 L7 U (BE Bm U (fun _ hx=>(by rw [A6 hx.2]; rfl)) ?_);refine Ba ?_;replace R50:=R50.ext0 (Ext.drew [] _); replace H:=H.drew;refine Ai Pn (ED a50 c50 _ l5 k.x 8 _ R50 U (by omega)) U ?_;rintro v w F;replace H:=H.call F.ext;obtain ⟨a54,c54,rfl,R54,-⟩:=Fresh.rdB F;refine Ab (B1 (⟨H.ext,H.get at0⟩) (A0 U U ?_));refine Ba (Ai Pn (ED a54 c54 _ _ k.w 2 _ R54 U (by simp [Bg]; omega)) U ?_);rintro v w F;replace H:=H.call F.ext
  obtain ⟨a57,c57,rfl,R57,-⟩:=Fresh.rdB F;refine Ab (B1 (⟨H.ext,H.get at0⟩) (A0 U U ?_));refine Ba (Ai Pn (ED a57 c57 _ _ k.u 8 _ R57 U (by simp [Bg]; omega)) U ?_);rintro v w F;replace H:=H.call F.ext;obtain ⟨a60,c60,rfl,R60,-⟩:=Fresh.rdB F;refine Ab (B1 (⟨H.ext,H.get at0⟩) (A0 U U ?_));refine Ba (Ai Sv (Ga a60 c60 _ _ k.id 8 _ R60 U (by simp [Bg]; omega)) U ?_);rintro v w F;have hE:=H.ext;replace H:=H.call F.ext;obtain ⟨a63,c63,rfl,-,-⟩:=Fresh.rdB F;refine Ab (B1 (⟨H.ext,H.get at0⟩) (A0 U U ?_));refine K5 U U (Ba (Ae U (Ab (B1 (⟨H.ext,H.get at0⟩) (B6 (A9 (C6 (v1:=(.slice _ _ _)) (v2:=(.int _ _)) U U U U ?_)))))));refine ⟨_,rfl,?_⟩
  have hfin:CC c n k=l5++Bh (w64 k.x) 8++Bh (w64 k.w) 2++Bh (w64 k.u) 8++Bh (w64 k.id) 8:=by
   unfold CC;rw [hl5,hl4];simp only [List.append_assoc,List.append_nil]
  rw [hfin];exact Fresh.since F hE
end Go.Proofs.YtibemkominehdaaGreat
namespace Go.Proofs.YtibemkominehdaaGreat
open Go.GV
attribute [local irreducible] Al W Wq Wt
theorem TQ {l:List UInt8} {p k:Nat} (hk:Hq k) (h:p+k≤l.length):IC l (p:Int) (k:Int) = .tuple #[.int .u64 (CI l p k:Int),.int .i64 ((p:Int)+(k:Int)),.int .i64 0]:=by
 have hs:F6 (k:Int)=true:=by rcases hk with rfl | rfl | rfl | rfl <;> rfl
 have he:F7 l (p:Int) (k:Int)=0:=by
  unfold F7;rw [hs,decide_eq_true (show (0:Int)≤(p:Int) by omega),decide_eq_true (show (p:Int)≤(l.length:Int) by omega),decide_eq_true (show (k:Int)≤(l.length:Int) - (p:Int) by omega)];rfl
 unfold IC;rw [he];rfl
structure ByA (w:World) (S:List Nat) (a:Option Addr) (c:Nat) (l:List UInt8):Prop where
 R:Rd w a 1 B8 l
 off:l≠[]→(adr a).block∉S
 hc:l.length≤c
 hm:l.length≤100000
theorem ByA.at {w w':World} {S:List Nat} {a:Option Addr} {c:Nat} {l:List UInt8} (B:ByA w S a c l) (h:Ext S w w'):Rd w' a 1 B8 l:=B.R.ext' h B.off
theorem ByA.ext {w w':World} {S:List Nat} {a:Option Addr} {c:Nat} {l:List UInt8} (B:ByA w S a c l) (h:Ext S w w'):ByA w' S a c l:=⟨B.at h,B.off,B.hc,B.hm⟩
theorem ByA.of {w w':World} {a:Option Addr} {c b:Nat} {l:List UInt8} (R:Rd w a 1 B8 l) (hx:Ext [] w w') (hb:w.heap.size≤b) (hc:l.length≤c) (hm:l.length≤100000):ByA w' [b] a c l :=
 ⟨R.ext0 hx,fun hl=>by
  have:=R.lt' (fun _ _=>rfl) (by decide) hl;rw [List.mem_singleton]
  omega,hc,hm⟩
abbrev rdC (a:Option Addr) (n c p:Nat):List Value:=[.slice a n c,.int .i64 (p:Int)]
set_option maxHeartbeats 1000000 in
theorem D2 (br:Nat) (a:Option Addr) (c:Nat) (l:List UInt8) (p k:Nat) (w:World) (B:ByA w [br] a c l) (hb:w.heap[br]? = some (Bl 136 (rdC a l.length c p)))  (hk:Hq k:=by decide) (hp:p+k≤l.length:=by omega):
  Ret Tryz.prog 51 #[ptr br,.int .i64 (k:Int)] w fun v w'=>v = .int .u64 (CI l p k:Int)∧Ctx w [br] w' [(br,Bl 136 (rdC a l.length c (p+k)))]:=by
 obtain ⟨w0,rfl⟩:∃ w0,w0=w:=⟨_,rfl⟩;have H:=Ctx.start1 hb;have hm:=B.hm;refine Au (fn:=Tryz.f51) Tryz.func51 U [ptr br,.int .i64 (k:Int)] U ?_;refine Ag (Ae U (Ab (Aa (BT [([0,1,2,3,4,5,6,7,8],9),([10,11,12,13,14,15],16)] (fun z=>z.heap[br]? = some (Bl 136 (rdC a l.length c p))) [] Bz (H.drew.get at0) ?_))));refine A0 U U ?_;refine Cw U (BF U (A8 Sz U (BE MH U (fun _ hx=>(by rw [A6 hx]; rfl)) ?_)));refine Cw U (BF U (A8 MN U (BE ER U (fun _ hx=>(by rw [A6 hx]; rfl)) ?_)));refine AG U (Ba ?_);replace H:=H.drew;refine Ai ca_91 (TE a c _ l (p:Int) (k:Int) _ (B.at H.ext) U B.hc) U ?_;rintro v w ⟨rfl,hx18⟩;replace H:=H.call hx18;rw [TQ hk hp];refine Ab (B1 (H.get at0) (A0 U U ?_));refine IQ U U (C8 U U (C8 U U (C8 U U (Gj U U (Gj U U (Ba (Ae U (Ab (B1 (H.get at0) (B6 ?_))))))))))
 refine Ax (Ag (Ad U (Cp U U (Ab (Aa (Ay _ U ?_ ?_))))))
 ·intro h1;replace h1:=AX h1;refine A5 (AA U (Ad U (Bb U (Ah MN U (Ck (.int _ _) sz_3 U U U H at0 (by (simp; done)) ?_)))));rintro w H;refine Ab (Aa (Ag (Ad U (Ae U (Ab (Aa (A9 (AD (v:=(.int _ _)) U U U ?_))))))));refine ⟨rfl,?_⟩;show Ctx w0 [br] w [(br,Bl 136 [.slice a l.length c,.int .i64 ((p+k:Nat):Int)])];rw [show ((p+k:Nat):Int)=(p:Int)+(k:Int) by omega];exact H
 ·intro h1;replace h1:=AY h1;exact absurd U h1
def gaC (l:List UInt8):Nat:=bif Cz l then CI l 0 4 else 0
def gaN (l:List UInt8):Nat:=bif Cz l then CI l 4 8 else 0
def gaK (l:List UInt8):Ak:=bif Cz l then D5 l else ⟨0,0,0,0,0,0,0⟩
def gaE (l:List UInt8):Int:=bif Cz l then 0 else 5
abbrev gaV (l:List UInt8):Value := .tuple #[.int .u32 (gaC l:Int),.int .u64 (gaN l:Int),.agg (BW (gaK l)).toArray,.int .i64 (gaE l)]
theorem Nq {n:Nat} (h:n<18446744073709551616):IntKind.i64.wrap (n:Int)=sgN 9223372036854775808 n:=by
 have h1:(n:Int) % 18446744073709551616=(n:Int):=by omega
 show (if (true && decide ((n:Int) % 18446744073709551616≥9223372036854775808))=true then (n:Int) % 18446744073709551616 - 18446744073709551616 else (n:Int) % 18446744073709551616)=_;rw [h1,Bool.true_and];unfold sgN
 by_cases h2:n<9223372036854775808
 ·rw [decide_eq_false (show ¬ (n:Int)≥9223372036854775808 by omega),if_neg Bool.false_ne_true,if_pos h2]
 ·rw [decide_eq_true (show (n:Int)≥9223372036854775808 by omega),if_pos rfl,if_neg h2];omega
theorem TR {n:Nat} (h:n<65536):IntKind.i16.wrap (n:Int)=sgN 32768 n:=by
 have h1:(n:Int) % 65536=(n:Int):=by omega
 show (if (true && decide ((n:Int) % 65536≥32768))=true then (n:Int) % 65536 - 65536 else (n:Int) % 65536)=_;rw [h1,Bool.true_and];unfold sgN
 by_cases h2:n<32768
 ·rw [decide_eq_false (show ¬ (n:Int)≥32768 by omega),if_neg Bool.false_ne_true,if_pos h2]
 ·rw [decide_eq_true (show (n:Int)≥32768 by omega),if_pos rfl,if_neg h2];omega
theorem OE (n:Nat) (h:n<65536) : -32768≤sgN 32768 n∧sgN 32768 n≤32767:=by
 unfold sgN
 split <;> omega
set_option maxRecDepth 20000 in
set_option maxHeartbeats 4000000 in
theorem QP (a:Option Addr) (c m:Nat) (l:List UInt8) (w:World) (R:Rd w a 1 B8 l) (hml:l.length=m) (hc:l.length≤c)  (hm:m≤100000:=by omega):
  Ret Tryz.prog 29 #[.slice a m c] w fun v w'=>v=gaV l∧Ext [] w w':=by
 subst hml;obtain ⟨w0,rfl⟩:∃ w0,w0=w:=⟨_,rfl⟩;have H:=Ctx.start w0 [];refine Au (fn:=Tryz.f29) Tryz.func29 U [.slice a l.length c] U ?_;refine Ag (Ae U (Ae U (B5 G1 H ?_)));rintro b4 w - H;refine Ae U (Ab (Aa (Ax (Ag (An U U (Bp BQ U (CQ U U (Ab (Aa (Ay _ U ?_ ?_))))))))))
 ·intro h1;replace h1:=Dw h1;refine Ag (Bn (BW ⟨0,0,0,0,0,0,0⟩) I5 G1 ?_);refine Ae U (Ae U (BB F1 U U U (by simp [AR]) H at0 U ?_));rintro w H;refine Ae U (Ab (Aa (A9 (A7 (IR U U (show _=(.int _ _) from rfl) (show _=(.int _ _) from rfl) U Ix F1 H at0 U (show _=(.int _ _) from rfl) ?_)))))
  have hf:Cz l=false:=by
   unfold Cz;rw [decide_eq_false (by omega)];rfl
  refine ⟨?_,H.ext⟩;unfold gaV gaC gaN gaK gaE;rw [hf];rfl
 ·intro h1;replace h1:=Dx h1;have hl:l.length=42:=by omega
  refine A2 (Aa (Ag (An U U (Bn (rdC a l.length c 0) W5 WC ?_))));refine BK (rdC a l.length c 0) (.agg _) U U H ?_;rintro br w - H;have hbr:w0.heap.size≤br:=by (have:=H.own (_,_) (List.mem_of_getElem? at0); simpa using this)
  refine BV U (Ab (Aa (Ag (AA U (Ai GW (D2 br a c l 0 4 _ (ByA.of R H.ext hbr hc hm) (H.get at0)) U ?_)))));rintro v w ⟨rfl,H7⟩;replace H:=Ctx.back (L1:=[_]) (L2:=[_]) H H7;refine It U U CH MR (by omega) (by have:=fld4 l 0; omega) ?_;refine AA U (Ai GW (D2 br a c l 4 8 _ (ByA.of R H.ext hbr hc hm) (H.get at0)) U ?_);rintro v w ⟨rfl,H7⟩;replace H:=Ctx.back (L1:=[_]) (L2:=[_]) H H7;refine Ae U (Ae U (Ab (Aa (Ag (AA U (Ai GW (D2 br a c l 12 1 _ (ByA.of R H.ext hbr hc hm) (H.get at0)) U ?_))))));rintro v w ⟨rfl,H7⟩;replace H:=Ctx.back (L1:=[_]) (L2:=[_]) H H7;refine GA U U CH Er (h2:=by have:=fld1 l 12; omega) ?_;refine AA U (Ai GW (D2 br a c l 13 1 _ (ByA.of R H.ext hbr hc hm) (H.get at0)) U ?_);rintro v w ⟨rfl,H7⟩;replace H:=Ctx.back (L1:=[_]) (L2:=[_]) H H7
  refine BP U CH E0 (h2:=by have:=fld1 l 13; omega) ?_;refine AA U (Ai GW (D2 br a c l 14 2 _ (ByA.of R H.ext hbr hc hm) (H.get at0)) U ?_);rintro v w ⟨rfl,H7⟩;replace H:=Ctx.back (L1:=[_]) (L2:=[_]) H H7;refine CF U CH V7 ?_;rw [TR (QH l 14)];refine BP U V7 E0 (h1:=by have:=OE _ (QH l 14); omega) (h2:=by have:=OE _ (QH l 14); omega) ?_;refine Ah Fj U (Ck (.int _ _) FC U U U H at1 (by decide) ?_);rintro w H;refine Ah DE U (Ck (.int _ _) sz_3 U U U H at1 (by (simp; done)) ?_);rintro w H;refine Ah Fk U (Ck (.int _ _) sz_3 U U U H at1 (by (simp; done)) ?_);rintro w H;refine Ab (Aa (Ag (AA U (Ai GW (D2 br a c l 16 8 _ (ByA.of R H.ext hbr hc hm) (H.get at0)) U ?_))));rintro v w ⟨rfl,H7⟩;replace H:=Ctx.back (L1:=[_]) (L2:=[_]) H H7;refine CF U CH Ki ?_;rw [Nq (QI l 16)]
  refine AA U (Ai GW (D2 br a c l 24 2 _ (ByA.of R H.ext hbr hc hm) (H.get at0)) U ?_);rintro v w ⟨rfl,H7⟩;replace H:=Ctx.back (L1:=[_]) (L2:=[_]) H H7;refine BP U CH Ki (h2:=by have:=QH l 24; omega) ?_;refine AA U (Ai GW (D2 br a c l 26 8 _ (ByA.of R H.ext hbr hc hm) (H.get at0)) U ?_);rintro v w ⟨rfl,H7⟩;replace H:=Ctx.back (L1:=[_]) (L2:=[_]) H H7;refine CF U CH Ki ?_;rw [Nq (QI l 26)];refine AA U (Ai GW (D2 br a c l 34 8 _ (ByA.of R H.ext hbr hc hm) (H.get at0)) U ?_);rintro v w ⟨rfl,H7⟩;replace H:=Ctx.back (L1:=[_]) (L2:=[_]) H H7;refine Ah IV U (Ck (.int _ _) Ez U U U H at1 (by (simp; done)) ?_);rintro w H;refine Ah Fl U (Ck (.int _ _) Ez U U U H at1 (by (simp; done)) ?_);rintro w H;refine Ah L6 U (Ck (.int _ _) Ez U U U H at1 (by (simp; done)) ?_);rintro w H
  refine Ah L7 U (Ck (.int _ _) AB U U U H at1 (by (simp; done)) ?_);rintro w H;refine Ab (Aa (Ax (Ag (CK (α:=Unit) 35888059530608640 (fun _=>[(54,.bool ((decide ((CI l 12 1:Int)<1) || decide ((CI l 12 1:Int)>15))))]) (fun _ w'=>Ctx w0 [] w' [(br,Bl 136 (rdC a l.length c 42)),(b4,Bl 34 (BW (D5 l)))]) U ?_ ?_))))
  ·refine Ah Fj U (AH GS U H at1 U (Bu U U (Ap U (AZ 50 U ?_ ?_))))
   ·intro h1;replace h1:=AX h1;refine Af U (Af U (Af U (Av U (.bool _) U (Ab ?_))));exact ⟨rfl,(),rfl,⟨congrArg Value.bool (by (rw [Bool.eq_iff_iff]; simp only [Bool.or_eq_true,decide_eq_true_eq,true_iff]; omega)),trivial⟩,H⟩
   ·intro h2;replace h2:=AY h2;refine Ah Fj U (AH GS U H at1 U (CP U U (AE U (.bool _) U (Ab ?_))));exact ⟨rfl,(),rfl,⟨congrArg Value.bool (by (rw [Bool.eq_iff_iff]; simp only [Bool.or_eq_true,decide_eq_true_eq]; omega)),trivial⟩,H⟩
  rintro - j54 w H;refine Ay _ U ?_ ?_
  ·intro h2;refine Ag (Bn (BW ⟨0,0,0,0,0,0,0⟩) I5 G1 ?_);refine Ae U (Ae U (BB F1 U U U (by simp [AR]) H at1 U ?_));rintro w H;refine Ae U (Ab (Aa (A9 (A7 (IR U U (show _=(.int _ _) from rfl) (show _=(.int _ _) from rfl) U Ix F1 H at1 U (show _=(.int _ _) from rfl) ?_)))))
   have hf:Cz l=false:=by
    unfold Cz;simp at h2;rw [hl,decide_eq_true rfl,Bool.true_and,Bool.and_eq_false_iff,decide_eq_false_iff_not,decide_eq_false_iff_not];omega
   refine ⟨?_,H.ext⟩;unfold gaV gaC gaN gaK gaE;rw [hf];rfl
  ·intro h2;refine A2 (Aa (El 5 Bz U U ?_));refine AJ U (AJ U (VO U Ix F1 U (by rintro _ rfl; exact H.drew) at1 U ?_));refine K4 U U (K4 U U (BZ ?_));replace H:=H.drew;refine BB F1 U U U (by simp [AR]) H at1 U ?_;rintro w H;refine Ae U (Ab (Aa (A9 (IR U U (show _=(.int _ _) from rfl) (show _=(.int _ _) from rfl) U Ix F1 H at1 U (show _=(.int _ _) from rfl) ?_))))
   have hf:Cz l=true:=by
    unfold Cz;simp at h2;rw [hl,decide_eq_true rfl,decide_eq_true (show 1≤CI l 12 1 by omega),decide_eq_true (show CI l 12 1≤15 by omega)];rfl
   refine ⟨?_,H.ext⟩;unfold gaV gaC gaN gaK gaE;rw [hf];rfl
end Go.Proofs.YtibemkominehdaaGreat
namespace Go.Proofs.YtibemkominehdaaGreat
open Go.GV
attribute [local irreducible] Al W Wq Wt
structure PrZ where
 i:Nat
 a:Option Addr
 c:Nat
set_option maxRecDepth 20000 in
set_option maxHeartbeats 2000000 in
theorem QQ (cl n:Nat) (e:Int) (a:Option Addr) (m c:Nat) (ns:List Int) (w:World) (R:Rd w a 1 I1 ns) (hm:ns.length=m) (hm2:m≤29) (he:0≤e∧e≤255) (hc:cl<4294967296) (hn:n<18446744073709551616) :
  Ret Tryz.prog 52 #[.int .u32 (cl:Int),.int .u64 (n:Int),.agg #[.int .i64 e,.slice a m c]] w fun v w'=>∃ s,v = .tuple #[s,.int .i64 0]∧Fresh w w' 5 1 s ((Ef cl n e ns).map bv):=by
 subst hm;obtain ⟨w0,rfl⟩:∃ w0,w0=w:=⟨_,rfl⟩;have H:=Ctx.start w0 [];refine Au (fn:=Tryz.f52) Tryz.func52 U [.int .u32 (cl:Int),.int .u64 (n:Int),.agg #[.int .i64 e,.slice a ns.length c]] U ?_;refine Ag (BK [.int .i64 e,.slice a ns.length c] (.agg _) U U H ?_);rintro b5 w - H;refine Aj U (Ae U (Ab (Aa (Ax (Ag (CK (α:=Unit) 33552384 (fun _=>[(24,.bool (((decide (e<0) || decide (e>255)) || decide ((ns.length:Int)>29))))]) (fun _ w'=>Ctx w0 [] w' [(b5,Bl 85 [.int .i64 e,.slice a ns.length c])]) U ?_ ?_))))))
 ·refine Ah Ha U (AH KD U H at0 U (Bu U U (Ap U (AZ 14 U ?_ ?_))))
  ·intro h1;replace h1:=AX h1;refine Af U (Af U (Af U (Av U (.bool _) U (Ap U (Af U (Af U (Af U (Af U (Av U (.bool _) U ?_)))))))));refine Ab ?_;exact ⟨rfl,(),rfl,⟨congrArg Value.bool (by (rw [Bool.eq_iff_iff]; simp only [Bool.or_eq_true,decide_eq_true_eq,true_iff]; omega)),trivial⟩,H⟩
  ·intro h2;replace h2:=AY h2;refine Ah Ha U (AH KD U H at0 U (CP U U (AE U (.bool _) U (Ap U (AZ 19 U ?_ ?_)))))
   ·intro h3;replace h3:=AX h3;refine Af U (Af U (Af U (Af U (Av U (.bool _) U (Ab ?_)))));exact ⟨rfl,(),rfl,⟨congrArg Value.bool (by (rw [Bool.eq_iff_iff]; simp only [Bool.or_eq_true,decide_eq_true_eq,true_iff]; omega)),trivial⟩,H⟩
   ·intro h4;replace h4:=AY h4;refine Ah LA U (AH Ep U H at0 U (Bp Ch U (CP U U (AE U (.bool _) U (Ab ?_)))));exact ⟨rfl,(),rfl,⟨congrArg Value.bool (by (rw [Bool.eq_iff_iff]; simp only [Bool.or_eq_true,decide_eq_true_eq]; omega)),trivial⟩,H⟩
 rintro - j24 w H;refine Ay _ U ?_ ?_
 ·intro g1;exfalso;simp at g1;omega
 ·intro g1;clear g1;refine A2 (Aa (Ag (Ad U (Ai Vy (IE none 0 0 [] cl 4 _ Rd.nil U) U ?_))));rintro v w F;rw [Eg,List.nil_append] at F;replace H:=H.call F.ext;obtain ⟨a26,c26,rfl,R26,-⟩:=Fresh.rdB F;refine Ad U (Ai Sv (Ga a26 c26 _ _ (n:Int) 8 _ R26 U (by simp [Bg])) U ?_);rintro v w F;rw [Eg (h:=hn)] at F;replace H:=H.call F.ext;obtain ⟨a28,c28,rfl,R28,-⟩:=Fresh.rdB F;refine Aj U (Ab (Aa ?_));obtain ⟨l4,hl4⟩:∃ l4,l4=Bh cl 4++Bh n 8:=⟨_,rfl⟩;rw [← hl4] at R28 ⊢;have hn4:l4.length=12:=by rw [hl4]; simp [Bg]
  refine BT [([0,1,2,4,5,6],3),([],7),([],8)] (fun z=>(Ext [] w0 z∧z.heap[b5]? = some (Bl 85 [.int .i64 e,.slice a ns.length c]))) [] Bz (⟨H.drew.ext,H.drew.get at0⟩) ?_;refine A0 U U ?_;refine AM U (A8 Ha U (BE KD U (fun _ hx=>(by rw [A6 hx.2]; rfl)) ?_));refine A8 LA U (BE Ep U (fun _ hx=>(by rw [A6 hx.2]; rfl)) ?_);refine t_len U Ch U (Ba ?_);replace R28:=R28.ext0 (Ext.drew [] _); replace H:=H.drew;refine Ai ca_92 (QN a28 c28 _ l4 e 1 _ R28 U) U ?_;rintro v w F;replace H:=H.call F.ext;obtain ⟨a32,c32,rfl,R32,-⟩:=Fresh.rdB F;refine Ab (B1 (⟨H.ext,H.get at0⟩) (A0 U U ?_));refine Ba (Ai Sx (FZ a32 c32 _ _ ns.length 1 _ R32 U (by simp [Bg]; omega)) U ?_);rintro v w F;have hE:=H.ext;replace H:=H.call F.ext;rw [Eg] at F;obtain ⟨a36,c36,rfl,-,-⟩:=Fresh.rdB F;refine Ab (B1 (⟨H.ext,H.get at0⟩) (A0 U U ?_))
  refine Ba (Aj U (Ab (B1 (⟨H.ext,H.get at0⟩) (B6 (Ax ?_)))));obtain ⟨l5,hl5⟩:∃ l5,l5=l4++Bh (w64 e) 1++Bh ns.length 1:=⟨_,rfl⟩;rw [← hl5] at F ⊢;have hn5:l5.length=14:=by rw [hl5]; simp [Bg,hn4]
  rw [hn5] at F ⊢;replace F:=Fresh.since F hE;refine Ag (Ah LA U (AH Ep U H at0 U (Bp Ch U (Ad U (Ab (Aa (A4 (Bt 280375465084160 (α:=PrZ) (fun t=>[(8,.slice t.a (14+8*t.i) t.c),(40,.int .i64 (t.i:Int))]) (fun t w'=>t.i≤ns.length∧Ctx w0 [] w' [(b5,Bl 85 [.int .i64 e,.slice a ns.length c])]∧Fresh w0 w' 5 1 (.slice t.a (14+8*t.i) t.c) ((l5++EC (ns.take t.i)).map bv)) (fun t=>ns.length - t.i) ⟨0,a36,c36⟩ U ?_ ?_ ?_))))))))
  ·exact ⟨rfl,rfl,trivial⟩
  ·exact ⟨Nat.zero_le _,H,by simpa [EC] using F⟩
  ·clear H F;rintro ⟨i,a8,c8⟩ j w ⟨hi,H,F⟩; dsimp only at hi H F; dsimp only;refine Ag (Bu U U (Ab (Aa (Ax (Ay _ U ?_ ?_)))))
   ·intro h2;replace h2:=AX h2;obtain ⟨x,hx⟩:=AV (l:=ns) (i:=i)
    have hl8:(l5++EC (ns.take i)).length=14+8*i:=by
     rw [List.length_append,Ig,List.length_take,hn5];omega
    obtain ⟨a8',c8',hv8,R8,-⟩:=Fresh.rdB F;rw [hl8] at hv8;cases hv8;refine A2 (Aa (Ax (A4 (Ag (BC (R.ext0 H.ext) Ch Ez U U (by rfl) ?_)))));refine BN CT U (((R.ext0 H.ext).one (f:=Eb) hx)) ?_;refine Ae U (Ab (Aa (A5 (An U U (Ad U (Ai Pn (ED a8 c8 _ _ x 8 _ R8 hl8 (by omega)) U ?_))))));rintro v w F2;have hE:=H.ext;replace H:=H.call F2.ext;replace F2:=Fresh.since F2 hE;rw [List.append_assoc,← O4 hx] at F2;obtain ⟨a9,c9,rfl,-,-⟩:=Fresh.rdB F2;rw [show (l5++EC (ns.take (i+1))).length=14+8*(i+1) by (rw [List.length_append,Ig,List.length_take,hn5]; omega)] at F2 ⊢;refine Aj U (Ab (AU (Aa (A5 (A3 U U ?_)))));refine Ad U (Ab (Aa ?_));exact ⟨⟨i+1,a9,c9⟩,rfl,⟨rfl,rfl,trivial⟩,⟨by dsimp only; omega,H,F2⟩,by dsimp only; omega⟩
   ·intro h2;replace h2:=AY h2;obtain rfl:i=ns.length:=by omega
    rw [List.take_length] at F;refine Bs (Ao (Ao (AK (Aa (Ag (An U U (Aj U (Ae U (Ab (Aa (A9 (C6 (v1:=(.slice _ _ _)) (v2:=(.int _ _)) U U U U ?_))))))))))));refine ⟨_,rfl,?_⟩
    have hfin:Ef cl n e ns=l5++EC ns:=by
     unfold Ef;rw [hl5,hl4];simp only [List.append_assoc]
    rw [hfin];exact F
theorem Ij (cl n:Nat) (e:Int) (a:Option Addr) (m c:Nat) (ns:List Int) (w:World) (R:Rd w a 1 I1 ns) (hm:ns.length=m) (hm2:m≤29) (he:0≤e∧e≤255) (hc:cl<4294967296) (hn:n<18446744073709551616) :
  Ret Tryz.prog 30 #[.agg #[.int .u32 (cl:Int),.int .u64 (n:Int)],.agg #[.int .i64 e,.slice a m c]] w fun v w'=>Fresh w w' 5 1 v ((Ef cl n e ns).map bv):=by
 obtain ⟨w0,rfl⟩:∃ w0,w0=w:=⟨_,rfl⟩;have H:=Ctx.start w0 [];refine Au (fn:=Tryz.f30) Tryz.func30 U [.agg #[.int .u32 (cl:Int),.int .u64 (n:Int)],.agg #[.int .i64 e,.slice a m c]] U ?_;refine Ag (BK [.int .u32 (cl:Int),.int .u64 (n:Int)] (.agg _) U U H ?_);rintro b2 w - H;refine BK [.int .i64 e,.slice a m c] (.agg _) U U H ?_;rintro b3 w - H;refine Aj U (Ab (Aa (Ag (Ah UE U (AH Vo U H at1 U (Ah UF U (AH Bm U H at1 U (DZ KH ES U H at0 U (Ai ca_52 (QQ cl n e a m c ns _ (R.ext0 H.ext) hm hm2 he hc hn) U ?_)))))))));rintro v w ⟨s,rfl,F⟩;have hE:=H.ext;replace H:=H.call F.ext;obtain ⟨a13,c13,rfl,-,-⟩:=Fresh.rdB F;refine C9 U (AO U U (AO U U (Aj U (Ae U (Ab (Aa (Ag (An U U (Aj U (Ab (Aa ?_)))))))))));refine A9 (AD (v:=(.slice _ _ _)) U U U ?_);exact Fresh.since F hE
end Go.Proofs.YtibemkominehdaaGreat
namespace Go.Proofs.YtibemkominehdaaGreat
open Go.GV
attribute [local irreducible] Al W Wq Wt
structure As where
 c:Nat
 n:Nat
 ask:List UInt8
 rep:List UInt8
 aA:Option Addr
 cA:Nat
 aR:Option Addr
 cR:Nat
abbrev asC (x:As):List Value:=[.int .u32 (x.c:Int),.int .u64 (x.n:Int),.slice x.aA x.ask.length x.cA,.slice x.aR x.rep.length x.cR]
structure AsR (w:World) (x:As):Prop where
 A:Rd w x.aA 1 B8 x.ask
 R:Rd w x.aR 1 B8 x.rep
 cA:x.ask.length≤x.cA
 cR:x.rep.length≤x.cR
theorem AsR.ext0 {w w':World} {x:As} (h:AsR w x) (hx:Ext [] w w'):AsR w' x:=⟨h.A.ext0 hx,h.R.ext0 hx,h.cA,h.cR⟩
structure Own (w w':World) (x y:As) (B:List (Nat × Obj)):Prop where
 H:Ctx w [] w' B
 c:y.c=x.c
 n:y.n=x.n
 ask:y.ask=x.ask
 rep:y.rep=x.rep
 lie:∃ fA fR,B=ent y.aA 5 fA++ent y.aR 5 fR∧OS y.aA y.ask.length y.cA 1 fA (y.ask.map bv)∧OS y.aR y.rep.length y.cR 1 fR (y.rep.map bv)
set_option maxRecDepth 20000 in
set_option maxHeartbeats 1000000 in
theorem TS (x:As) (w:World) (X:AsR w x)  (hA:x.ask.length≤100000:=by omega) (hR:x.rep.length≤100000:=by omega):
  Ret Tryz.prog 38 #[.agg (asC x).toArray] w fun v w'=>∃ y B,v = .agg (asC y).toArray∧Own w w' x y B:=by
 obtain ⟨w0,rfl⟩:∃ w0,w0=w:=⟨_,rfl⟩;have H:=Ctx.start w0 [];refine Au (fn:=Tryz.f38) Tryz.func38 U [.agg (asC x).toArray] U ?_;refine Ag (BK (asC x) (.agg _) U U H ?_);rintro b1 w - H;refine B5 MT H ?_;rintro b2 w - H;refine Ab (Aa (BT [([0,1,3,4],2),([6],5),([],7),([8],9)] (fun z=>(Ext [] w0 z∧z.heap[b1]? = some (Bl 57 (asC x)))) [7,9] Bz (⟨H.drew.ext,H.drew.get at1⟩) ?_));refine A0 U U ?_;refine A8 L8 U (BE MH U (fun _ hx=>(by rw [A6 hx.2]; rfl)) ?_);refine A8 L9 U (BE MH U (fun _ hx=>(by rw [A6 hx.2]; rfl)) ?_);refine Ba ?_;replace H:=H.drew;refine Ai Pm (Hp x.aA x.cA _ x.ask _ (X.A.ext0 H.ext) U) U ?_;rintro v w ⟨F,-⟩;obtain ⟨a5,n5,c5,f5,rfl,O5,h5⟩:=F.ex;obtain rfl:n5=x.ask.length:=by (have:=O5.llen; rw [List.length_map] at this; omega)
 replace H:=H.callEnt F.ext h5 DO;refine Ab (B1 (⟨H.ext,H.get at1⟩) (A0 U U ?_));refine A8 L8 U (Ba (Ai Pm (Hp x.aR x.cR _ x.rep _ (X.R.ext0 H.ext) U) U ?_));rintro v w ⟨F,-⟩;obtain ⟨a8,n8,c8,f8,rfl,O8,h8⟩:=F.ex;obtain rfl:n8=x.rep.length:=by (have:=O8.llen; rw [List.length_map] at this; omega)
 replace H:=H.callEnt F.ext h8 DO;refine Ab (B1 (⟨H.left.ext,H.left.get at1⟩) (A0 U U ?_));refine Ba (Ck (.slice _ _ _) V1 U U U H at1 (by (simp; done)) ?_);rintro w H;refine Ab (Bo U (A0 U U ?_));refine A8 L9 U (Ba (Ck (.slice _ _ _) V1 U U U H at1 (by (simp; done)) ?_));rintro w H;refine Ab (Bo U (B6 (Ag (DZ Se J4 U H at1 U (BB J4 U U U (by simp [AR]) H at0 U ?_)))));rintro w H;refine Ab (Aa (A9 (E6 U U U Se J4 H at0 U ?_)));have H17:Ctx w0 [] w ([(b2,Bl 57 [.int .u32 (x.c:Int),.int .u64 (x.n:Int),.slice a5 x.ask.length c5,.slice a8 x.rep.length c8]),(b1,Bl 57 [.int .u32 (x.c:Int),.int .u64 (x.n:Int),.slice a5 x.ask.length c5,.slice a8 x.rep.length c8])]++(ent a5 5 f5++ent a8 5 f8)):=H;exact ⟨⟨x.c,x.n,x.ask,x.rep,a5,c5,a8,c8⟩,ent a5 5 f5++ent a8 5 f8,rfl,H17.right,rfl,rfl,rfl,rfl,f5,f8,rfl,O5,O8⟩
end Go.Proofs.YtibemkominehdaaGreat
namespace Go.Proofs.YtibemkominehdaaGreat
open Go.GV
attribute [local irreducible] Al W Wq Wt
set_option maxRecDepth 20000 in
set_option maxHeartbeats 1000000 in
theorem TT {m:Lm} {s:Ld} {T:Nat→Prop} {k:Ak} (hk:k.kd=12) (_:AkIn k) (w:World) (I:LdIn w m s T) (H0:Ctx w (DA m s) w (LL m s)) :
  Ret Tryz.prog 63 #[ptr m.bl,.agg (BW k).toArray] w (Np w m s T k):=by
 obtain ⟨w0,rfl⟩:∃ w0,w0=w:=⟨_,rfl⟩;obtain ⟨bl,ba,bd,br,b,a,c,full,o,arch⟩:=m;obtain ⟨S0,hS0⟩:∃ S,S=DA ⟨bl,ba,bd,br,b,a,c,full,o,arch⟩ s:=⟨_,rfl⟩;have H:Ctx w0 S0 w0 ((bl,Bl 132 [ptr ba,ptr bd,ptr br,.int .i64 s.day])::(br,Bl 179 arch)::(ba,Bl 173 [.slice a s.acs.length c])::(bd,Bl 176 (DU b s.nx))::(b,o)::ent a 51 full):=by rw [hS0]; exact H0
 have hn16:=(CU.1 I.ok.ac).1;have hbdb:bd≠b:=H.ne (i:=3) (j:=4) rfl rfl (by decide)
 have hstep:CV s k s (rp (JO s.acs k.a) (if (0:Int)=0∧inA s.acs k.a=false then 10 else 0)):=by
  unfold CV;rw [if_neg (by omega)];have hR:Mf s k=if inA s.acs k.a=true then ⟨0,JO s.acs k.a⟩ else ⟨10,[]⟩:=by unfold Mf; rw [if_neg (by omega),if_neg (by omega),if_neg (by omega),if_neg (by omega),if_neg (by omega),if_neg (by omega),if_neg (by omega),if_neg (by omega),if_neg (by omega),if_pos hk]
  refine ⟨by unfold IJ; rw [if_neg (by omega),if_neg (by omega),if_neg (by omega),if_neg (by omega),if_neg (by omega),if_neg (by omega),if_neg (by omega),if_neg (by omega),if_neg (by omega)],?_⟩;rw [hR]
  cases inA s.acs k.a with
  | true=>rfl
  | false=>rfl
 refine Au (fn:=Tryz.f63) Tryz.func63 U [.pointer (some ⟨bl,0,none⟩),.agg (BW k).toArray] U ?_;refine Ag (BK (BW k) (.agg _) U U H ?_);rintro b3 w - H;refine Aj U (Ae U (Ab (Aa (Ag (AA U (Ah DE U (AH ER U H at0 U (Ai Vz (PS k.a _ _ (H.get at1) (H.get at3) (OS.rd (t:=51) I.O (fun y hy=>H.blk y (List.mem_append_right [_,_,_,_,_,_] hy)) (fun _ _=>rfl) (by decide))) U ?_))))))));rintro v w ⟨a',c',rfl,F⟩;have H8:=H;replace H:=H.call F.ext;refine AO U U (AO U U (Aj U (Ae U (Ab (Aa (A9 (C6 (v1:=(.slice _ _ _)) (v2:=(.int _ _)) U U U U ?_)))))));subst hS0;exact Mg (P:=[_]) (m':=⟨bl,ba,bd,br,b,a,c,full,o,arch⟩) (s':=s) I H8 F hstep I.O I.M I.ok U U U U
def OpnR (w0:World) (S0:List Nat) (w:World) (s:Ld) (arch:List Value) (b3:Nat) (e3:List Value) (bl ba bd br b c:Nat) (a:Option Addr) (full:List Value) (o:Obj) (i' code:Int):Prop :=
 (16≤s.acs.length∧code=6∧Ctx w0 S0 w ((b3,Bl 34 e3)::(bl,Bl 132 [ptr ba,ptr bd,ptr br,.int .i64 s.day])::(br,Bl 179 arch)::LX ba a s.acs.length c full bd b s.nx o)) ∨
 (s.acs.length<16∧i'=(s.acs.length:Int)∧code=0∧∃ a' c' full',OS a' (s.acs++[a00]).length c' 2 full' ((s.acs++[a00]).flatMap Cs)∧Ctx w0 S0 w ((b3,Bl 34 e3)::(bl,Bl 132 [ptr ba,ptr bd,ptr br,.int .i64 s.day])::(br,Bl 179 arch)::LX ba a' (s.acs++[a00]).length c' full' bd b s.nx o))
theorem TU {w0 w w':World} {S0:List Nat} {s:Ld} {arch:List Value} {b3 bl ba bd br b c:Nat} {e3:List Value} {a:Option Addr} {full:List Value} {o:Obj} {v:Value} (H:Ctx w0 S0 w ((b3,Bl 34 e3)::(bl,Bl 132 [ptr ba,ptr bd,ptr br,.int .i64 s.day])::(br,Bl 179 arch)::LX ba a s.acs.length c full bd b s.nx o))
  (h:(16≤s.acs.length→v = .tuple #[.int .i64 0,.int .i64 6]∧Ctx w ((AL ba (bd,Bl 176 (DU b s.nx)) (b,o) a s.acs.length c full).map fun x=>x.1) w' (AL ba (bd,Bl 176 (DU b s.nx)) (b,o) a s.acs.length c full)) ∧
   (s.acs.length<16→v = .tuple #[.int .i64 (s.acs.length:Int),.int .i64 0]∧∃ a' c' full',OS a' (s.acs++[a00]).length c' 2 full' ((s.acs++[a00]).flatMap Cs)∧Ctx w ((AL ba (bd,Bl 176 (DU b s.nx)) (b,o) a s.acs.length c full).map fun x=>x.1) w' (AL ba (bd,Bl 176 (DU b s.nx)) (b,o) a' (s.acs++[a00]).length c' full'))) :
  ∃ i' code,v = .tuple #[.int .i64 i',.int .i64 code]∧OpnR w0 S0 w' s arch b3 e3 bl ba bd br b c a full o i' code:=by
 have hb:∀ {L':List (Nat × Obj)},Ctx w ((AL ba (bd,Bl 176 (DU b s.nx)) (b,o) a s.acs.length c full).map fun x=>x.1) w' L'→Ctx w0 S0 w' ([(b3,Bl 34 e3),(bl,Bl 132 [ptr ba,ptr bd,ptr br,.int .i64 s.day]),(br,Bl 179 arch)]++L'):=fun {L'} h1=>(Ctx.back (L1:=AL ba (bd,Bl 176 (DU b s.nx)) (b,o) a s.acs.length c full) (L2:=[_,_,_]) (H.comm (L:=[_,_,_])) h1).comm
 rcases Nat.lt_or_ge s.acs.length 16 with h16 | h16
 ·obtain ⟨rfl,a',c',full',O',H1⟩:=h.2 h16;exact ⟨_,_,rfl,.inr ⟨h16,rfl,rfl,a',c',full',O',hb H1⟩⟩
 ·obtain ⟨rfl,H1⟩:=h.1 h16;exact ⟨_,_,rfl,.inl ⟨h16,rfl,hb H1⟩⟩
set_option maxRecDepth 20000 in
set_option maxHeartbeats 1000000 in
theorem TV {m:Lm} {s:Ld} {T:Nat→Prop} {k:Ak} (hk:k.kd=1) (hin:AkIn k) (w:World) (I:LdIn w m s T) (H0:Ctx w (DA m s) w (LL m s)) :
  Ret Tryz.prog 53 #[ptr m.bl,.agg (BW k).toArray] w (Np w m s T k):=by
 obtain ⟨w0,rfl⟩:∃ w0,w0=w:=⟨_,rfl⟩;obtain ⟨bl,ba,bd,br,b,a,c,full,o,arch⟩:=m;obtain ⟨S0,hS0⟩:∃ S,S=DA ⟨bl,ba,bd,br,b,a,c,full,o,arch⟩ s:=⟨_,rfl⟩;have H:Ctx w0 S0 w0 ((bl,Bl 132 [ptr ba,ptr bd,ptr br,.int .i64 s.day])::(br,Bl 179 arch)::(ba,Bl 173 [.slice a s.acs.length c])::(bd,Bl 176 (DU b s.nx))::(b,o)::ent a 51 full):=by rw [hS0]; exact H0
 have hn16:=(CU.1 I.ok.ac).1;have hbdb:bd≠b:=H.ne (i:=3) (j:=4) rfl rfl (by decide)
 have hstep:∀ l,(s.acs.length<16→l=[(s.acs.length:Int)])→CV s k (IJ s k) (rp l (if s.acs.length<16 then 0 else 6)):=fun l hl=>by
  unfold CV;rw [if_neg (by omega)];refine ⟨rfl,?_⟩;unfold Mf;rw [if_pos hk]
  by_cases h:s.acs.length<16
  ·rw [if_pos h,hl h]
  ·rw [if_neg h,TH,TH]
 have hokS:=TI I.ok k hin.u.2;have hoth:IJ s k=if s.acs.length<16 then { s with acs:=s.acs++[a00] } else s:=by unfold IJ; rw [if_pos hk]
 refine Au (fn:=Tryz.f53) Tryz.func53 U [.pointer (some ⟨bl,0,none⟩),.agg (BW k).toArray] U ?_;refine Ag (BK (BW k) (.agg _) U U H ?_);rintro b3 w - H;refine Aj U (Ae U (Ab (Aa (Ag (AA U (Bb U (Ah GY U (AH HM U H at1 U ?_))))))));have HL:=Ctx.lend (L1:=AL ba (bd,Bl 176 (DU b s.nx)) (b,o) a s.acs.length c full) (L2:=[(b3,Bl 34 (BW k)),(bl,Bl 132 [ptr ba,ptr bd,ptr br,.int .i64 s.day]),(br,Bl 179 arch)]) (H.comm (L:=[_,_,_]));refine Ai ca_93 (QJ HL I.O) U ?_;rintro v w hres;obtain ⟨i',code,rfl,hr⟩:∃ i' code,v = .tuple #[.int .i64 i',.int .i64 code]∧OpnR w0 S0 w s arch b3 (BW k) bl ba bd br b c a full o i' code:=TU H hres;refine C9 U (AO U U (AO U U (Ae U (Ae U (Ab (Aa (Ag (Ad U ?_))))))));have H:=Ctx.start w [];refine Cn [.int .i64 i'] (.int .i64 i') Ch Ez Kj U U U U H ?_;rintro b17 w2 - H17
 refine Ad U (Aj U (Ae U (Ab (Aa (A9 (C6 (v1:=(.slice _ _ _)) (v2:=(.int _ _)) U U U U ?_))))));subst hS0
 rcases hr with ⟨h16,rfl,H1⟩ | ⟨h16,rfl,rfl,a',c',full',O',H1⟩
 ·rw [hoth,if_neg (by omega)] at hokS hstep;rw [if_neg (by omega)] at hstep;exact Mg (P:=[_]) (m':=⟨bl,ba,bd,br,b,a,c,full,o,arch⟩) (s':=s) (l:=[i']) I H1 (Mi (n:=1) (l:=[Eb i']) H17 U) (hstep [i'] fun h=>by omega) I.O I.M I.ok U U U U
 ·rw [hoth,if_pos h16] at hokS hstep;rw [if_pos h16] at hstep;exact Mg (P:=[_]) (m':=⟨bl,ba,bd,br,b,a',c',full',o,arch⟩) (s':={ s with acs:=s.acs++[a00] }) (l:=[(s.acs.length:Int)]) I H1 (Mi (n:=1) (l:=[Eb (s.acs.length:Int)]) H17 U) (hstep [_] fun _=>rfl) O' I.M hokS U U U U
end Go.Proofs.YtibemkominehdaaGreat
namespace Go.Proofs.YtibemkominehdaaGreat
open Go.GV
attribute [local irreducible] Al W Wq Wt
end Go.Proofs.YtibemkominehdaaGreat
namespace Go.Proofs.YtibemkominehdaaGreat
open Go.GV
attribute [local irreducible] Al W Wq Wt
end Go.Proofs.YtibemkominehdaaGreat
namespace Go.Proofs.YtibemkominehdaaGreat
open Go.GV
attribute [local irreducible] Al W Wq Wt
theorem Nr {α:Type} {enc:α→List Value} {s:Nat} {t:TypeId} {xs:List α} {w w':World} {v:Value} (F:Fresh w w' t s v (xs.flatMap enc)) (hs:∀ x∈xs,(enc x).length=s) (h0:0<s:=by decide):∃ a c,v = .slice a xs.length c∧Rd w' a s enc xs∧(xs≠[]→w.heap.size≤(adr a).block)∧xs.length≤c∧Ext [] w w':=by
 obtain ⟨a,n,c,f,rfl,O,hb⟩:=F.ex;obtain rfl:=O.numN hs h0;refine ⟨a,c,rfl,OS.rd O (fun x hx=>(hb x hx).1) hs h0,fun hne=>?_,O.le,F.ext⟩;obtain ⟨q,rfl⟩:=O.form (List.length_pos_iff.2 hne);exact (hb (q,Bl t f) (List.mem_singleton.2 U)).2
theorem TW (l:List Int):∀ v∈l.map DL,AR v=true:=fun v hv=>by
 obtain ⟨x,_,rfl⟩:=List.mem_map.1 hv; rfl
theorem QR (a:Option Addr) (n c:Nat) (xs:List Int) (w:World) (R:Rd w a 1 U1 xs) (hn:xs.length=n)  (hm:n≤1000000000:=by omega):
  Ret Tryz.prog 175 #[.slice a n c] w fun v w'=>Fresh w w' 32 1 v (xs.map DL):=by
 subst hn;obtain ⟨w0,rfl⟩:∃ w0,w0=w:=⟨_,rfl⟩;have H:=Ctx.start w0 [];refine Au (fn:=Tryz.f175) Tryz.func175 U [.slice a xs.length c] U ?_;refine Ag (Aj U (Ab (Aa (Ax (Ag (An U U (EO U AP U (Ab (Aa (Ay _ U ?_ ?_))))))))))
 ·intro h1;have ha:a=none:=by simpa using h1
  subst ha
  have hxs:xs=[]:=by
   cases xs with
   | nil=>rfl
   | cons x xs=>obtain ⟨b,o,h⟩:=R.some' (by simp); cases h
  subst hxs;refine Ag (Aj U (Ab (Aa (A9 (A7 (AD (v:=(.slice _ _ _)) U U U ?_))))));exact Fresh.nil H _ _
 ·intro h1;refine A2 (Aa (Ag (EQ U AP AB H ?_)));rintro b5 w H O;refine An U U (Ei U AP AP AB Vt SH U (xs.map DL) U U H O (by simp) (TW xs) (Rd.app1 (f:=DL) (R.ext0 H.ext)) ?_);rintro a7 c7 full7 w H O;refine Aj U (Ab (Aa (A9 (AD (v:=(.slice _ _ _)) U U U ?_))));exact H.fresh O
theorem QS (es:List Ed):(es.flatMap DI).length=es.length*4:=by
 induction es with
 | nil=>rfl
 | cons e es ih =>
  rw [List.flatMap_cons,List.length_append,ih];show 4+es.length*4=(es.length+1)*4;omega
theorem QT (es:List Ed):∀ v∈es.flatMap DI,AR v=true:=fun v hv=>by
 obtain ⟨e,_,he⟩:=List.mem_flatMap.1 hv;simp only [DI,List.mem_cons,List.not_mem_nil,or_false] at he
 rcases he with rfl | rfl | rfl | rfl <;> rfl
theorem QU (a:Option Addr) (n c:Nat) (es:List Ed) (w:World) (R:Rd w a 4 DI es) (hn:es.length=n)  (hm:n≤1000000000:=by omega):
  Ret Tryz.prog 176 #[.slice a n c] w fun v w'=>Fresh w w' 205 4 v (es.flatMap DI):=by
 subst hn;obtain ⟨w0,rfl⟩:∃ w0,w0=w:=⟨_,rfl⟩;have H:=Ctx.start w0 [];refine Au (fn:=Tryz.f176) Tryz.func176 U [.slice a es.length c] U ?_;refine Ag (Aj U (Ab (Aa (Ax (Ag (An U U (EO U GX U (Ab (Aa (Ay _ U ?_ ?_))))))))))
 ·intro h1;have ha:a=none:=by simpa using h1
  subst ha
  have hxs:es=[]:=by
   cases es with
   | nil=>rfl
   | cons x xs=>obtain ⟨b,o,h⟩:=R.some' (by simp); cases h
  subst hxs;refine Ag (Aj U (Ab (Aa (A9 (A7 (AD (v:=(.slice _ _ _)) U U U ?_))))));exact Fresh.nil H _ _
 ·intro h1;refine A2 (Aa (Ag (EQ U GX HP H ?_)));rintro b5 w H O;refine An U U (Ei U GX GX HP VY WG U (es.flatMap DI) U U H O (QS es) (QT es) ((R.ext0 H.ext).app (fun _ _=>rfl) (by omega)) ?_);rintro a7 c7 full7 w H O;refine Aj U (Ab (Aa (A9 (AD (v:=(.slice _ _ _)) U U U ?_))));exact H.fresh O
set_option maxRecDepth 20000 in
set_option maxHeartbeats 2000000 in
theorem UZ (r:Rnd) (q:RSl) (w:World) (RA:RAt w r q) (hr:RBnd r):Ret Tryz.prog 116 #[.agg (BL r q).toArray] w fun v w'=>Ext [] w w'∧∃ q',v = .agg (BL r q').toArray∧RAt w' r q'∧ROff q' r (fun x=>x<w.heap.size):=by
 obtain ⟨w0,rfl⟩:∃ w0,w0=w:=⟨_,rfl⟩;have H:=Ctx.start w0 [];have b1':=hr.ids;have b2':=hr.es;have b3':=hr.fl;have b4':=hr.pot;refine Au (fn:=Tryz.f116) Tryz.func116 U [.agg (BL r q).toArray] U ?_;refine Ag (BK (BL r q) (.agg _) U U H ?_);rintro b1 w - H;refine B5 SI H ?_;rintro b2 w - H;refine Ab (Aa (BT [([0,1,3,4,5],2),([7],6),([],8),([9,10],11)] (fun z=>z.heap[b1]? = some (Bl 80 (BL r q))) [8,11] Bz (H.drew.get at1) ?_));refine A0 U U ?_;refine A8 Fp U (BE Iy U (fun _ hx=>(by rw [A6 hx]; rfl)) ?_);refine A8 IX U (A8 Fo U (BE KG U (fun _ hx=>(by rw [A6 hx]; rfl)) ?_));refine Ba ?_;replace H:=H.drew;refine Ai Wn (QR _ _ _ r.ids _ (RA.I.ext0 H.ext) U) U ?_;rintro v w F;obtain ⟨a5,n5,c5,f5,rfl,O5,hb5⟩:=F.ex;obtain rfl:=O5.num;replace H:Ctx w0 [] w ((b2,Bl 80 rnd0)::(b1,Bl 80 (BL r q))::ent a5 32 f5):=H.callEnt F.ext hb5 DO
 refine Ab (B1 (H.get at1) (A0 U U ?_));refine A8 Fp U (Ba (Ai Wo (QU _ _ _ r.es _ (RA.E.ext0 H.ext) U) U ?_));rintro v w F;obtain ⟨a9,n9,c9,f9,rfl,O9,hb9⟩:=F.ex;obtain rfl:=O9.numN (fun _ _=>rfl) (by decide);replace H:Ctx w0 [] w ((b2,Bl 80 rnd0)::(b1,Bl 80 (BL r q))::(ent a5 32 f5++ent a9 205 f9)):=H.callEnt F.ext hb9 DO;refine Ab (B1 (H.get at1) (A0 U U ?_));refine Ba (Ck (.slice _ _ _) V2 U U U H at1 (by (simp; done)) ?_);rintro w H;refine Ab (Bo U (A0 U U ?_));refine A8 IX U (A8 Fo U (Ba (Ck (.slice _ _ _) sz_73 U U U H at1 (by (simp; done)) ?_)));rintro w H;refine Ab (Bo U (B6 ?_))
 change Ctx w0 [] w ((b2,Bl 80 rnd0)::(b1,Bl 80 (BL r ⟨a5,c5,a9,c9,q.aF,q.cF,q.aP,q.cP⟩))::(ent a5 32 f5++ent a9 205 f9)) at H
 refine BT [([0,1,2,4,5,6],3),([],7),([8,9],10)] (fun z=>z.heap[b1]? = some (Bl 80 (BL r ⟨a5,c5,a9,c9,q.aF,q.cF,q.aP,q.cP⟩))) [10] Bz (H.drew.get at1) ?_;refine A0 U U ?_;refine A8 Da U (A8 Gp U (BE Ep U (fun _ hx=>(by rw [A6 hx]; rfl)) ?_));refine A8 Da U (A8 Gq U (BE Ep U (fun _ hx=>(by rw [A6 hx]; rfl)) ?_));refine Ba ?_;replace H:=H.drew;refine Ai Sm (KV _ _ _ r.fl _ (RA.F.ext0 H.ext) U) U ?_;rintro v w F;obtain ⟨a6,n6,c6,f6,rfl,O6,hb6⟩:=F.ex;obtain rfl:=O6.num;replace H:Ctx w0 [] w ((b2,Bl 80 rnd0)::(b1,Bl 80 (BL r ⟨a5,c5,a9,c9,q.aF,q.cF,q.aP,q.cP⟩))::(ent a5 32 f5++ent a9 205 f9++ent a6 2 f6)):=H.callEnt F.ext hb6 DO;refine Ab (B1 (H.get at1) (A0 U U ?_));refine Ba (Ai Sm (KV _ _ _ r.pot _ (RA.P.ext0 H.ext) U) U ?_);rintro v w F;obtain ⟨a7,n7,c7,f7,rfl,O7,hb7⟩:=F.ex;obtain rfl:=O7.num
 replace H:Ctx w0 [] w ((b2,Bl 80 rnd0)::(b1,Bl 80 (BL r ⟨a5,c5,a9,c9,q.aF,q.cF,q.aP,q.cP⟩))::(ent a5 32 f5++ent a9 205 f9++ent a6 2 f6++ent a7 2 f7)):=H.callEnt F.ext hb7 DO;refine Ab (B1 (H.get at1) (A0 U U ?_));refine M3 [.slice a6 r.fl.length c6,.slice a7 r.pot.length c7] U pl_78 zc_78 ?_;refine A8 Da U (Ba (Pc U sz_78 U U U (by simp [AR]) H at1 (show 0+6+2≤8 by decide) ?_));rintro w H;refine Ab (Bo U (B6 ?_))
 change Ctx w0 [] w ((b2,Bl 80 rnd0)::(b1,Bl 80 (BL r ⟨a5,c5,a9,c9,a6,c6,a7,c7⟩))::(ent a5 32 f5++ent a9 205 f9++ent a6 2 f6++ent a7 2 f7)) at H
 refine Ag (DZ MJ FQ U H at1 U (BB FQ U U U (by simp [AR]) H at0 U ?_));rintro w H;refine Ab (Aa (A9 (E6 U U U MJ FQ H at0 U ?_)));have hm:∀ x,x∈ent a5 32 f5++ent a9 205 f9++ent a6 2 f6++ent a7 2 f7→w.heap[x.1]? = some x.2∧w0.heap.size≤x.1:=fun x hx=>⟨H.blk x (List.mem_append_right [_,_] hx),(H.own x (List.mem_append_right [_,_] hx)).elim (fun h=>by cases h) id⟩
 have hoff:∀ {t:TypeId} {a:Option Addr} {n c s:Nat} {f l:List Value},OS a n c s f l→(∀ x∈ent a t f,w0.heap.size≤x.1)→0<n→¬ (adr a).block<w0.heap.size:=fun {t a n c s f l} O h hn=>by
  obtain ⟨q,rfl⟩:=O.form hn;have:=h (q,Bl t f) (List.mem_singleton.2 rfl);exact Nat.not_lt.2 this
 have m5:∀ x∈ent a5 32 f5,_:=fun x hx=>hm x (List.mem_append_left _ (List.mem_append_left _ (List.mem_append_left _ hx)));have m9:∀ x∈ent a9 205 f9,_:=fun x hx=>hm x (List.mem_append_left _ (List.mem_append_left _ (List.mem_append_right _ hx)));have m6:∀ x∈ent a6 2 f6,_:=fun x hx=>hm x (List.mem_append_left _ (List.mem_append_right _ hx));have m7:∀ x∈ent a7 2 f7,_:=fun x hx=>hm x (List.mem_append_right _ hx)
 exact ⟨H.ext,⟨a5,c5,a9,c9,a6,c6,a7,c7⟩,rfl,⟨O5.rd1 fun x hx=>(m5 x hx).1,OS.rd O9 (fun x hx=>(m9 x hx).1) (fun _ _=>rfl) (by decide),O6.rd1 fun x hx=>(m6 x hx).1,O7.rd1 fun x hx=>(m7 x hx).1,O6.le⟩,
  ⟨fun h=>hoff O5 (fun x hx=>(m5 x hx).2) (List.length_pos_iff.2 h),fun h=>hoff O9 (fun x hx=>(m9 x hx).2) (List.length_pos_iff.2 h),fun h=>hoff O6 (fun x hx=>(m6 x hx).2) (List.length_pos_iff.2 h),fun h=>hoff O7 (fun x hx=>(m7 x hx).2) (List.length_pos_iff.2 h)⟩⟩
end Go.Proofs.YtibemkominehdaaGreat
namespace Go.Proofs.YtibemkominehdaaGreat
open Go.GV
attribute [local irreducible] Al W Wq Wt
def putA (arch:List Value) (n:Nat) (r:Rnd) (q:RSl):List Value:=((over arch ((r.no % 4).toNat*8) (BL r q)).set 32 (.int .u64 ((min (n+1) 4:Nat):Int))).set 33 (.int .u64 r.no)
end Go.Proofs.YtibemkominehdaaGreat
namespace Go.Proofs.YtibemkominehdaaGreat
open Go.GV
attribute [local irreducible] Al W Wq Wt
theorem RAt.no {w:World} {r:Rnd} {q:RSl} (h:RAt w r q) (k d:Int):RAt w { r with no:=k,day:=d } q:=⟨h.I,h.E,h.F,h.P,h.fc⟩
theorem ROff.no {r:Rnd} {q:RSl} {S:Nat→Prop} (h:ROff q r S) (k d:Int):ROff q { r with no:=k,day:=d } S:=⟨h.I,h.E,h.F,h.P⟩
theorem RBnd.no {r:Rnd} (h:RBnd r) (k d:Int):RBnd { r with no:=k,day:=d }:=⟨h.N,h.es,h.ids,h.fl,h.pot⟩
theorem WZ {br:Nat} {no:Int} {arch:List Value} (w:World) (h0:w.heap[br]? = some (Bl 179 arch)) (hno:arch[33]? = some (.int .u64 no)) :
  Ret Tryz.prog 74 #[ptr br] w fun v w'=>v = .int .u64 no∧Ext [] w w':=by
 obtain ⟨w0,rfl⟩:∃ w0,w0=w:=⟨_,rfl⟩;have H:=Ctx.start w0 [];refine Au (fn:=Tryz.f74) Tryz.func74 U [.pointer (some ⟨br,0,none⟩)] U ?_;refine Ag (Ae U (Ab (Aa (Ax (Ag (AA U (Cg SD U ?_)))))));refine Ab (Aa (Ay _ U ?_ ?_))
 ·intro h1;cases h1
 ·intro h1;refine A2 (Aa (Ag (AA U (Bb U (Ah MQ U (BN Bm U ((by rw [A6 (H.ext.to h0 (by simp))]; exact hno)) ?_))))));refine Ae U (Ab (Aa (A9 (AD (v:=(.int _ _)) U U U ?_))));exact ⟨rfl,H.ext⟩
end Go.Proofs.YtibemkominehdaaGreat
namespace Go.Proofs.YtibemkominehdaaGreat
open Go.GV
attribute [local irreducible] Al W Wq Wt
end Go.Proofs.YtibemkominehdaaGreat
namespace Go.Proofs.YtibemkominehdaaGreat
open Go.GV
attribute [local irreducible] Al W Wq Wt
theorem Va {r:Rnd} (h:mayR r=true):RBnd r:=by
 unfold mayR at h;simp only [Bool.and_eq_true,decide_eq_true_eq] at h;obtain ⟨hc,hi,-⟩:=h;obtain ⟨h1,h2,-⟩:=HX.1 hc;obtain ⟨g1,g2,g3,-⟩:=He (D9 (EY h1).1).2.1;have g4:=(D9 (EY h1).1).1;have g5:=(WM h2).1;exact ⟨⟨by omega,by omega⟩,by omega,by omega,by omega,by omega⟩
def Grows (T T':Nat→Prop) (w:World):Prop:=(∀ x,T x→T' x)∧(∀ x,T' x→T x∨w.heap.size≤x)
theorem Grows.refl (T:Nat→Prop) (w:World):Grows T T w:=⟨fun _ h=>h,fun _ h => .inl h⟩
theorem Grows.trans {T T' T'':Nat→Prop} {w w':World} (h:Grows T T' w) (k:Grows T' T'' w') (hs:w.heap.size≤w'.heap.size):Grows T T'' w :=
 ⟨fun x hx=>k.1 x (h.1 x hx),fun x hx=>(k.2 x hx).elim (fun h1=>h.2 x h1) fun h1 => .inr (Nat.le_trans hs h1)⟩
theorem LdIn.grow {w w':World} {m:Lm} {s:Ld} {T T':Nat→Prop} {S:List Nat} (I:LdIn w m s T) (he:Ext S w w') (hs:∀ x∈S,T x∨w.heap.size≤x) (g:Grows T T' w) (hl:∀ x,T' x→x<w'.heap.size):LdIn w' m s T' where
 O:=I.O
 M:=I.M
 ok:=I.ok
 len:=I.len
 n:=I.n
 no:=I.no
 kept:=fun r h=>by
  obtain ⟨q,h1,h2,h3⟩:=I.kept r h;have h4:=h3.or h2.lt;exact ⟨q,h1,h2.ext he (h4.mono hs),h4.mono g.2⟩
 own:=fun x hx=>g.1 x (I.own x hx)
 low:=hl
end Go.Proofs.YtibemkominehdaaGreat
namespace Go.Proofs.YtibemkominehdaaGreat
open Go.GV
attribute [local irreducible] Al W Wq Wt
def s00:Ld:=⟨0,[],[],1,[],0⟩
theorem Xa:s00.Ok:=⟨by decide,by decide,fun d h=>(by cases h),by decide,by decide,fun i r h=>(by cases h),fun r h=>(by cases h)⟩
abbrev Ns:List Value:=rnd0++(rnd0++(rnd0++(rnd0++[.int .u64 0,.int .u64 0])))
theorem TX (w:World):Ret Tryz.prog 48 #[] w fun v w'=>∃ b,v=ptr b∧Ctx w [] w' [(b,Bl 173 [.slice none 0 0])]:=by
 obtain ⟨w0,rfl⟩:∃ w0,w0=w:=⟨_,rfl⟩;have H:=Ctx.start w0 [];refine Au (fn:=Tryz.f48) Tryz.func48 U [] U ?_;refine Ag (BV U (Ab (Aa (Ag (Bn [.slice none 0 0] W6 WD ?_)))));refine BK [.slice none 0 0] (.agg _) U U H ?_;rintro b2 w - H;refine BV U (Ab (Aa (A9 (AD (v:=(.pointer _)) U U U ?_))));exact ⟨b2,rfl,H⟩
theorem TY (w:World):Ret Tryz.prog 50 #[] w fun v w'=>∃ b,v=ptr b∧Ctx w [] w' [(b,Bl 179 Ns)]:=by
 obtain ⟨w0,rfl⟩:∃ w0,w0=w:=⟨_,rfl⟩;have H:=Ctx.start w0 [];refine Au (fn:=Tryz.f50) Tryz.func50 U [] U ?_;refine Ag (BV U (Ab (Aa (Ag (Bn Ns W8 WF ?_)))));refine BK Ns (.agg _) U U H ?_;rintro b2 w - H;refine BV U (Ab (Aa (A9 (AD (v:=(.pointer _)) U U U ?_))));exact ⟨b2,rfl,H⟩
theorem Vb (w:World):Ret Tryz.prog 26 #[] w fun v w'=>∃ m,v=ptr m.bl∧Ctx w [] w' (LL m s00)∧LdIn w' m s00 (fun x=>x∈DA m s00):=by
 obtain ⟨w0,rfl⟩:∃ w0,w0=w:=⟨_,rfl⟩;have H:=Ctx.start w0 [];refine Au (fn:=Tryz.f26) Tryz.func26 U [] U ?_;refine Ag (BV U (Ab (Aa (Ag (Ai ca_48 (TX _) U ?_)))));rintro v w ⟨ba,rfl,H1⟩;replace H:Ctx w0 [] w [(ba,Bl 173 [.slice none 0 0])]:=H1;refine Ai ca_49 (UO _) U ?_;rintro v w ⟨bd,b,o,rfl,hM,H1⟩;replace H:=Ctx.back (L1:=[]) (L2:=[_]) H H1;refine Ai ca_50 (TY _) U ?_;rintro v w ⟨br,rfl,H1⟩;replace H:=Ctx.back (L1:=[]) (L2:=[_,_,_]) H H1;refine Bn [ptr ba,ptr bd,ptr br,.int .i64 0] W4 WB ?_;refine BK [ptr ba,ptr bd,ptr br,.int .i64 0] (.agg _) U U H ?_;rintro bl w - H;refine BV U (Ab (Aa (A9 (AD (v:=(.pointer _)) U U U ?_))));have H1:Ctx w0 [] w (LL ⟨bl,ba,bd,br,b,none,0,[],o,Ns⟩ s00):=H.perm (List.Perm.cons _ (List.Perm.cons _ (List.perm_append_comm (l₁:=[_,_]) (l₂:=[_]))))
 refine ⟨⟨bl,ba,bd,br,b,none,0,[],o,Ns⟩,rfl,H1,OS.nil,hM,Xa,rfl,rfl,rfl,fun r h=>(by cases h),fun x h=>h,fun x h=>?_⟩;obtain ⟨y,hy,rfl⟩:=List.mem_map.1 h;exact Bq (H1.blk y hy)
abbrev Ll (x:Rnd × RSl):List Value:=BL x.1 x.2
theorem Nt {α β:Type} (y:β):∀ {xs:List α} {ys:List β} {x:α},xs[ys.length]? = some x→xs.zip (ys++[y])=xs.zip ys++[(x,y)]
 | [],_,_,h=>by cases h
 | a::xs,[],x,h=>by
  cases h;show (a,y)::xs.zip []=_;rw [List.zip_nil_right];rfl
 | a::xs,b::ys,x,h=>by
  show (a,b)::xs.zip (ys++[y])=(a,b)::(xs.zip ys++[(x,y)]);rw [Nt y (show xs[ys.length]? = some x from h)]
structure ARS where
 i:Nat
 a:Option Addr
 c:Nat
 full:List Value
 qs:List RSl
set_option maxRecDepth 20000 in
set_option maxHeartbeats 2000000 in
theorem QV {br:Nat} {m:Lm} {s:Ld} {T:Nat→Prop} (w:World) (I:LdIn w m s T) (h0:w.heap[br]? = some (Bl 179 m.arch)) :
  Ret Tryz.prog 73 #[ptr br] w fun v w'=>Ext [] w w'∧∃ a c qs,v = .slice a s.rn.length c∧qs.length=s.rn.length∧Rd w' a 8 Ll (s.rn.zip qs)∧(s.rn≠[]→¬ (adr a).block<w.heap.size)∧∀ x∈s.rn.zip qs,RAt w' x.1 x.2∧ROff x.2 x.1 (fun y=>y<w.heap.size):=by
 obtain ⟨w0,rfl⟩:∃ w0,w0=w:=⟨_,rfl⟩;have H:=Ctx.start w0 [];obtain ⟨hk4,hkn,hkm⟩:=I.ok.kept;refine Au (fn:=Tryz.f73) Tryz.func73 U [.pointer (some ⟨br,0,none⟩)] U ?_;refine Ag (Aj U (Ab (Aa (Ax (Ag (AA U (Cg SD U ?_)))))));refine Ab (Aa (Ay _ U ?_ ?_))
 ·intro h1;cases h1
 ·intro h1;refine A2 (Aa (Ax (Ag (AA U (Bb U (Ah MP U (BN Bm U ((by rw [A6 h0]; exact I.n)) ?_)))))));refine Ad U (Ab (Aa (A4 (Bt 68719475724 (α:=ARS) (fun t=>[(2,.slice t.a t.i t.c),(10,.int .u64 (t.i:Int))]) (fun t w'=>t.qs.length=t.i∧t.i≤s.rn.length∧OS t.a t.i t.c 8 t.full ((s.rn.zip t.qs).flatMap Ll)∧(∀ x∈s.rn.zip t.qs,RAt w' x.1 x.2∧ROff x.2 x.1 (fun y=>y<w0.heap.size∨y∈(ent t.a 80 t.full).map (fun x:Nat × Obj=>x.1)))∧Ctx w0 [] w' (ent t.a 80 t.full)) (fun t=>s.rn.length - t.i) ⟨0,none,0,[],[]⟩ U ?_ ?_ ?_))))
  ·exact ⟨rfl,rfl,trivial⟩
  ·refine ⟨rfl,Nat.zero_le _,?_,fun x hx=>?_,H⟩
   ·rw [List.zip_nil_right]; exact OS.nil
   ·rw [List.zip_nil_right] at hx; cases hx
  ·clear H;rintro ⟨i,a,c,full,qs⟩ j w ⟨hqi,hi,O,K,HR⟩; dsimp only at hqi hi O K HR; dsimp only;obtain ⟨w1,rfl⟩:∃ z,z=w:=⟨_,rfl⟩;have H:=Ctx.start w1 [];refine Ag (Bu U U (Ab (Aa (Ax (Ay _ U ?_ ?_)))))
   ·intro h2;replace h2:=AX h2;obtain ⟨r,hr⟩:=AV (l:=s.rn) (i:=i);obtain ⟨q,hq1,hq2,-⟩:=I.kept r (List.mem_of_getElem? hr);have hB:=Va (I.ok.may r (List.mem_of_getElem? hr));have hrn:=I.ok.nos i r hr;have h01:=HR.ext.to h0 (by simp);have h3:0≤r.no % 4∧r.no % 4<4:=⟨Int.emod_nonneg _ (by decide),Int.emod_lt_of_pos _ (by decide)⟩;rw [hrn] at hq1 h3;refine A2 (Aa (Ax (A4 (Ag (Ad U (Ae U (Ab (Aa ?_))))))))
    have hnbr:br∉(ent a 80 full).map (fun x:Nat × Obj=>x.1):=fun hm=>by
     obtain ⟨z,hz,hzb⟩:=List.mem_map.1 hm;have h4:=Bq h0;have h5:=(HR.own z hz).elim (fun h=>by cases h) id;rw [hzb] at h5;omega
    refine G6 [([0,1,2,3,4,5,6,7,8,9,10,11,12,13,14,15,16,17,18],19),([],20),([],21),([],22)] (fun z=>z.heap[br]? = some (Bl 179 m.arch)) [] Bz (H.drew.ext.to h01 (by simp)) ?_;refine A0 U U ?_;refine AM U (Cw U (Cw U (BF U (A8 MQ U (BE Bm U (fun _ hx=>(by rw [A6 hx]; exact I.no)) ?_)))));refine Cw U (BF U (A8 MP U (BE Bm U (fun _ hx=>(by rw [A6 hx]; exact I.n)) ?_)));refine Qf U U U ?_;refine K3 U U U ?_;refine AG U (K3 U U U ?_);refine t_rem U U U (by omega) (by omega) ?_;refine BF U (A8 S2 U (NK U VW FQ U U ?_));refine Kz _ U MJ FQ U U (fun _ hx=>(fun j v hv=>by rw [A6 hx,show 0+0+(((s.no - s.rn.length)+1+i) % 4).toNat*8+j=((s.no - s.rn.length+1+i) % 4).toNat*8+j by omega]; exact hq1 j v hv)) ?_;refine Ba ?_;replace H:=H.drew;have hs1:=H.ext.size
    refine Ai We (UZ r q _ (hq2.ext0 (HR.ext.trans H.ext)) hB) U ?_;rintro v w ⟨hx32,q',rfl,RA',hoff⟩;have E1:=H.ext.trans hx32;have HC:=HR.call E1;have h03:=HC.ext.to h0 (by simp);obtain ⟨w3,rfl⟩:∃ z,z=w:=⟨_,rfl⟩;clear H;have H:=Ctx.lend (L1:=ent a 80 full) HC.app_nil;refine Ab (B1 (h03) (A0 U U ?_));refine Ba (Cn _ (.agg _) I3 FQ SI U U U U H ?_);rintro b33 w - H;refine Ab (B1 (H.ext.to h03 hnbr) (A0 U U ?_));refine Ba (C2 (L:=[]) I3 I3 FQ by_80 SI U U U H O U (by simp [AR]) ?_);rintro a' c' full' w H O';refine Ab (B1 (H.ext.to h03 hnbr) (A0 U U ?_));refine Ba (Aj U (Ab (B1 (H.ext.to h03 hnbr) (B6 (AU (Aa (A5 (Jq U U U ?_))))))));refine Ad U (Ab (Aa ?_));have hs3:=E1.size
    have hin:∀ y∈(ent a' 80 full').map (fun x:Nat × Obj=>x.1),y∈(ent a 80 full).map (fun x:Nat × Obj=>x.1)∨w3.heap.size≤y:=fun y hy=>by
     obtain ⟨z,hz,rfl⟩:=List.mem_map.1 hy;exact H.own z hz
    have hlt:∀ y∈(ent a 80 full).map (fun x:Nat × Obj=>x.1),y<w1.heap.size:=fun y hy=>by
     obtain ⟨z,hz,rfl⟩:=List.mem_map.1 hy;exact Bq (HR.blk z hz)
    have hz:=Nt q' (ys:=qs) (hqi ▸ hr);refine ⟨⟨i+1,a',c',full',qs++[q']⟩,rfl,⟨rfl,rfl,trivial⟩,⟨by dsimp only; rw [List.length_append,List.length_singleton,hqi],by dsimp only; omega,?_,fun x hx=>?_,(Ctx.back (L1:=ent a 80 full) (L2:=[]) HC.app_nil H).nil_app⟩,by dsimp only; omega⟩
    ·dsimp only;rw [hz,List.flatMap_append,List.flatMap_singleton];exact O'
    ·dsimp only at hx ⊢;rw [hz] at hx
     rcases List.mem_append.1 hx with h | h
     ·obtain ⟨k1,k2⟩:=K x h;exact ⟨(k1.ext0 E1).ext H.ext (k2.mono fun y hy => .inr hy),(k2.or k1.lt).mono fun y hy=>hy.elim (fun h => .inl (.inl h)) fun h=>(hin y h).elim (fun h => .inl (.inr h)) fun h => .inr (Nat.le_trans hs3 h)⟩
     ·rw [List.mem_singleton.1 h];exact ⟨RA'.ext H.ext (hoff.mono fun y hy=>Nat.lt_of_lt_of_le (hlt y hy) hs1),(hoff.or RA'.lt).mono fun y hy=>hy.elim (fun h => .inl (Nat.lt_of_lt_of_le (Nat.lt_of_lt_of_le h HR.size) hs1)) fun h=>(hin y h).elim (fun h => .inl (Nat.lt_of_lt_of_le (hlt y h) hs1)) .inr⟩
   ·intro h2;replace h2:=AY h2;obtain rfl:i=s.rn.length:=by omega
    refine Bs (Ao (Ao (AK (Aa (Ag (An U U (Aj U (Ab (Aa (A9 (AD (v:=(.slice _ _ _)) U U U ?_)))))))))));have O2:OS a (s.rn.zip qs).length c 8 full ((s.rn.zip qs).flatMap Ll):=by rw [List.length_zip,hqi,Nat.min_self]; exact O
    refine ⟨HR.ext,a,c,qs,rfl,hqi,OS.rd O (t:=80) (fun x hx=>HR.blk x hx) (fun _ _=>rfl) (by decide),fun hne=>?_,fun x hx=>⟨(K x hx).1,(K x hx).2.mono fun y hy => .inl hy⟩⟩;obtain ⟨p,rfl⟩:=O.form (List.length_pos_iff.2 hne);exact Nat.not_lt.2 ((HR.own (p,Bl 80 full) (List.mem_singleton.2 U)).elim (fun h=>by cases h) id)
end Go.Proofs.YtibemkominehdaaGreat
namespace Go.Proofs.YtibemkominehdaaGreat
open Go.GV
attribute [local irreducible] Al W Wq Wt
set_option maxRecDepth 20000 in
set_option maxHeartbeats 4000000 in
theorem QW (r:Rnd) (q s:RSl) (w:World) (RA:RAt w r q) (RB:RAt w r s) (hr:RBnd r) :
  Ret Tryz.prog 112 #[.agg (BL r q).toArray,.agg (BL r s).toArray] w fun v w'=>v = .bool true∧Ext [] w w':=by
 obtain ⟨w0,rfl⟩:∃ w0,w0=w:=⟨_,rfl⟩;have H:=Ctx.start w0 [];have he:=hr.es;have hi:=hr.ids;have hf:=hr.fl;have hp:=hr.pot;refine Au (fn:=Tryz.f112) Tryz.func112 U [.agg (BL r q).toArray,.agg (BL r s).toArray] U ?_;refine Ag (BK (BL r q) (.agg _) U U H ?_);rintro b2 w - H;refine BK (BL r s) (.agg _) U U H ?_;rintro b3 w - H;refine Am U (Ab (Aa (Ax (Ag (CK (α:=Unit) 73786976294838206208 (fun _=>[(65,.bool (false))]) (fun _ w'=>Ctx w0 [] w' [(b3,Bl 80 (BL r s)),(b2,Bl 80 (BL r q))]) U ?_ ?_)))))
 ·refine Ah Pv U (AH Bm U H at1 U (Ah Pv U (AH Bm U H at0 U (CQ U U (Ap U (AZ 13 U ?_ ?_))))))
  ·intro h1;replace h1:=Dw h1;refine Af U (Af U (Af U (Af U (Af U (Av U (.bool _) U (Ap U (Af U (Af U (Af U ?_)))))))));refine Af U (Af U (Av U (.bool _) U (Ap U (Af U (Af U (Af U (Af U (Af U (Af U ?_)))))))));refine Av U (.bool _) U (Ap U (Af U (Af U (Af U (Af U (Af U (Af U (Af U (Av U (.bool _) U ?_)))))))));refine Ap U (Af U (Af U (Af U (Af U (Af U (Af U (Af U (Af U (Af U ?_)))))))));refine Av U (.bool _) U (Ap U (Af U (Af U (Af U (Af U (Af U (Af U (Af U (Af U ?_)))))))));refine Af U (Av U (.bool _) U (Ab ?_));exact ⟨rfl,(),rfl,⟨congrArg Value.bool (by (simp_all; done)),trivial⟩,H⟩
  ·intro h2;replace h2:=Dx h2;refine Ah Pw U (AH CT U H at1 U (Ah Pw U (AH CT U H at0 U (CQ U U (AE U (.bool _) U (Ap U (AZ 20 U ?_ ?_)))))))
   ·intro h3;replace h3:=Dw h3;refine Af U (Af U (Af U (Af U (Af U (Av U (.bool _) U (Ap U (Af U (Af U (Af U ?_)))))))));refine Af U (Af U (Af U (Av U (.bool _) U (Ap U (Af U (Af U (Af U (Af U (Af U ?_)))))))));refine Af U (Af U (Av U (.bool _) U (Ap U (Af U (Af U (Af U (Af U (Af U (Af U ?_)))))))));refine Af U (Af U (Af U (Av U (.bool _) U (Ap U (Af U (Af U (Af U (Af U (Af U ?_)))))))));refine Af U (Af U (Af U (Af U (Av U (.bool _) U (Ab ?_)))));exact ⟨rfl,(),rfl,⟨congrArg Value.bool (by (simp_all; done)),trivial⟩,H⟩
   ·intro h4;replace h4:=Dx h4;refine Ah Px U (AH ag_4 U H at1 U (Ah Px U (AH ag_4 U H at0 U (Uy un_4 U U U ?_))));refine AE U (.bool _) U (Ap U (AZ 27 U ?_ ?_))
    ·intro h5;refine Af U (Af U (Af U (Af U (Af U (Af U (Av U (.bool _) U (Ap U (Af U (Af U ?_)))))))));refine Af U (Af U (Af U (Af U (Af U (Av U (.bool _) U (Ap U (Af U (Af U (Af U ?_)))))))));refine Af U (Af U (Af U (Af U (Af U (Af U (Av U (.bool _) U (Ap U (Af U (Af U ?_)))))))));refine Af U (Af U (Af U (Af U (Af U (Af U (Af U (Av U (.bool _) U (Ab ?_))))))));exact ⟨rfl,(),rfl,⟨congrArg Value.bool (by (simp_all; done)),trivial⟩,H⟩
    ·intro h6;refine Ah IX U (Em _ Vr V3 U U ((CB (l:=BL r q) (H.get at1) 4 [.int .i64 r.N,.slice q.aE r.es.length q.cE] U)) ?_);refine Ah IX U (Em _ Vr V3 U U ((CB (l:=BL r s) (H.get at0) 4 [.int .i64 r.N,.slice s.aE r.es.length s.cE] U)) ?_);refine Ai Wj (OB r.N r.N q.aE s.aE _ q.cE _ s.cE r.es r.es _ (RA.E.ext0 H.ext) U he (RB.E.ext0 H.ext) U he) U ?_;rintro v w ⟨rfl,hx32⟩;replace H:=H.call hx32;rw [show Lk r.N r.N r.es r.es=true by simp [Lk]];refine C7 U (AE U (.bool _) U (Ap U (AZ 35 U ?_ ?_)))
     ·intro h7;replace h7:=Df h7;refine Af U (Af U (Af U (Af U (Af U (Af U (Af U (Av U (.bool _) U (Ap U (Af U ?_)))))))));refine Af U (Af U (Af U (Af U (Af U (Af U (Af U (Af U (Av U (.bool _) U (Ap U ?_)))))))));refine Af U (Af U (Af U (Af U (Af U (Af U (Af U (Af U (Af U (Av U (.bool _) U ?_)))))))));refine Ab ?_;exact ⟨rfl,(),rfl,⟨congrArg Value.bool (by (simp_all; done)),trivial⟩,H⟩
     ·intro h8;replace h8:=Dg h8;refine Ah Fp U (AH Iy U H at1 U (Bp AP U (Ah Fp U (AH Iy U H at0 U (Bp AP U (CQ U U (AE U (.bool _) U (Ap U (AZ 44 U ?_ ?_)))))))))
      ·intro h9;replace h9:=Dw h9;refine Af U (Af U (Af U (Af U (Af U (Af U (Af U (Af U (Af U (Av U (.bool _) U ?_)))))))));refine Ap U (Af U (Af U (Af U (Af U (Af U (Af U (Af U (Af U (Af U ?_)))))))));refine Av U (.bool _) U (Ab ?_);exact ⟨rfl,(),rfl,⟨congrArg Value.bool (by (simp_all; done)),trivial⟩,H⟩
      ·intro h10;replace h10:=Dx h10;refine Ah Da U (Ah Gp U (AH Ep U H at1 U (Bp Ch U (Ah Da U (Ah Gp U (AH Ep U H at0 U (Bp Ch U (CQ U U (AE U (.bool _) U ?_)))))))));refine Ap U (AZ 55 U ?_ ?_)
       ·intro h11;replace h11:=Dw h11;refine Af U (Af U (Af U (Af U (Af U (Af U (Af U (Af U (Af U (Av U (.bool _) U ?_)))))))));refine Ab ?_;exact ⟨rfl,(),rfl,⟨congrArg Value.bool (by (simp_all; done)),trivial⟩,H⟩
       ·intro h12;replace h12:=Dx h12;refine Ah Da U (Ah Gq U (AH Ep U H at1 U (Bp Ch U (Ah Da U (Ah Gq U (AH Ep U H at0 U (Bp Ch U (CQ U U (AE U (.bool _) U ?_)))))))));refine Ab ?_;exact ⟨rfl,(),rfl,⟨congrArg Value.bool (by (simp_all; done)),trivial⟩,H⟩
 rintro - j65 w H;refine E5 U (A2 (Aa (Ax (Ag (Ae U (Ab (Aa (A4 (Bt 19342739326857771957092400 (α:=Nat) (fun i=>[(5,.int .i64 (i:Int))]) (fun i w'=>i≤r.ids.length∧Ctx w0 [] w' [(b3,Bl 80 (BL r s)),(b2,Bl 80 (BL r q))]) (fun i=>r.ids.length - i) 0 U ?_ ?_ ?_)))))))))
 ·exact ⟨rfl,trivial⟩
 ·exact ⟨Nat.zero_le _,H⟩
 ·clear H;rintro i j w ⟨hii,H⟩;refine Ax (Ag (Ad U (Ah Fp U (AH Iy U H at1 U (Bp AP U (Bu U U (Ab (Aa (Ay _ U ?_ ?_)))))))))
  ·intro h2;replace h2:=AX h2;obtain ⟨x,hx⟩:=AV (l:=r.ids) (i:=i);refine A2 (Aa (Ax (A4 (Hw (fun x=>x=_) Bz U ?_))));refine BG Fp U (DS Iy U (by rintro _ rfl; exact H.drew) at1 U ?_);refine AJ U (Cf RA.I AP AB U U (by rfl) ?_);refine CR Bm U (by rintro _ rfl; exact (((RA.I.ext0 H.drew.ext).one (f:=DL) hx))) ?_;refine BG Fp U (DS Iy U (by rintro _ rfl; exact H.drew) at0 U ?_);refine AJ U (Cf RB.I AP AB U U (by rfl) ?_);refine CR Bm U (by rintro _ rfl; exact (((RB.I.ext0 H.drew.ext).one (f:=DL) hx))) ?_;refine Rw U U U (BZ ?_);rintro _ rfl;replace H:=H.drew;refine Ay _ U ?_ ?_
   ·intro h3;replace h3:=Dw h3;omega
   ·intro h3;replace h3:=Dx h3;refine A2 (AU (Aa (A5 (Ad U (A3 U U ?_)))));refine Ae U (Ab (Aa ?_));exact ⟨i+1,rfl,⟨rfl,trivial⟩,⟨by omega,H⟩,by omega⟩
  ·intro h2;replace h2:=AY h2;refine Bs (Ao (Ao (AK (Aa (Ax (Ag (Ae U (Ab (Aa (A4 (Bt 40564799864490227013827707273296 (α:=Nat) (fun i=>[(6,.int .i64 (i:Int))]) (fun i w'=>i≤r.fl.length∧Ctx w0 [] w' [(b3,Bl 80 (BL r s)),(b2,Bl 80 (BL r q))]) (fun i=>r.fl.length - i) 0 U ?_ ?_ ?_)))))))))))
   ·exact ⟨rfl,trivial⟩
   ·exact ⟨Nat.zero_le _,H⟩
   ·clear H;rintro i2 j2 w ⟨hii2,H⟩;refine Ax (Ag (Ad U (Ah Da U (Ah Gp U (AH Ep U H at1 U (Bp Ch U (Bu U U (Ab (Aa (Ay _ U ?_ ?_))))))))))
    ·intro h3;replace h3:=AX h3;obtain ⟨x,hx⟩:=AV (l:=r.fl) (i:=i2);refine A2 (Aa (Ax (A4 (Hw (fun x=>x=_) Bz U ?_))));refine BG Da U (BG Gp U (DS Ep U (by rintro _ rfl; exact H.drew) at1 U ?_));refine AJ U (Cf RA.F Ch Ez U U (by rfl) ?_);refine CR CT U (by rintro _ rfl; exact (((RA.F.ext0 H.drew.ext).one (f:=Eb) hx))) ?_;refine BG Da U (BG Gp U (DS Ep U (by rintro _ rfl; exact H.drew) at0 U ?_));refine AJ U (Cf RB.F Ch Ez U U (by rfl) ?_);refine CR CT U (by rintro _ rfl; exact (((RB.F.ext0 H.drew.ext).one (f:=Eb) hx))) ?_;refine Rw U U U (BZ ?_);rintro _ rfl;replace H:=H.drew;refine Ay _ U ?_ ?_
     ·intro h4;replace h4:=Dw h4;omega
     ·intro h4;replace h4:=Dx h4;refine A2 (AU (Aa (A5 (Ad U (A3 U U ?_)))));refine Ae U (Ab (Aa ?_));exact ⟨i2+1,rfl,⟨rfl,trivial⟩,⟨by omega,H⟩,by omega⟩
    ·intro h3;replace h3:=AY h3;refine Bs (Ao (Ao (AK (Aa (Ax (Ag (Ae U (Ab (Aa (A4 (Bt 85070551165415408562502803963439480976 (α:=Nat) (fun i=>[(7,.int .i64 (i:Int))]) (fun i w'=>i≤r.pot.length∧Ctx w0 [] w' [(b3,Bl 80 (BL r s)),(b2,Bl 80 (BL r q))]) (fun i=>r.pot.length - i) 0 U ?_ ?_ ?_)))))))))))
     ·exact ⟨rfl,trivial⟩
     ·exact ⟨Nat.zero_le _,H⟩
     ·clear H;rintro i3 j3 w ⟨hii3,H⟩;refine Ax (Ag (Ad U (Ah Da U (Ah Gq U (AH Ep U H at1 U (Bp Ch U (Bu U U (Ab (Aa (Ay _ U ?_ ?_))))))))))
      ·intro h4;replace h4:=AX h4;obtain ⟨x,hx⟩:=AV (l:=r.pot) (i:=i3);refine A2 (Aa (Ax (A4 (Hw (fun x=>x=_) Bz U ?_))));refine BG Da U (BG Gq U (DS Ep U (by rintro _ rfl; exact H.drew) at1 U ?_));refine AJ U (Cf RA.P Ch Ez U U (by rfl) ?_);refine CR CT U (by rintro _ rfl; exact (((RA.P.ext0 H.drew.ext).one (f:=Eb) hx))) ?_;refine BG Da U (BG Gq U (DS Ep U (by rintro _ rfl; exact H.drew) at0 U ?_));refine AJ U (Cf RB.P Ch Ez U U (by rfl) ?_);refine CR CT U (by rintro _ rfl; exact (((RB.P.ext0 H.drew.ext).one (f:=Eb) hx))) ?_;refine Rw U U U (BZ ?_);rintro _ rfl;replace H:=H.drew;refine Ay _ U ?_ ?_
       ·intro h5;replace h5:=Dw h5;omega
       ·intro h5;replace h5:=Dx h5;refine A2 (AU (Aa (A5 (Ad U (A3 U U ?_)))));refine Ae U (Ab (Aa ?_));exact ⟨i3+1,rfl,⟨rfl,trivial⟩,⟨by omega,H⟩,by omega⟩
      ·intro h4;replace h4:=AY h4;refine Bs (Ao (Ao (AK (Aa (Ag (Am U (Ab (Aa (A9 (AD (v:=(.bool _)) U U U ?_))))))))));exact ⟨rfl,H.ext⟩
set_option maxRecDepth 20000 in
theorem QX (a b:Option Addr) (n c m d:Nat) (rn:List Rnd) (qs zs:List RSl) (w:World) (R:Rd w a 8 Ll (rn.zip qs)) (hn:rn.length=n) (hn2:n≤1000000) (Ry:Rd w b 8 Ll (rn.zip zs)) (hm:rn.length=m) (hq:qs.length=rn.length) (hz:zs.length=rn.length)
  (K:∀ x∈rn.zip qs,RAt w x.1 x.2) (Ky:∀ x∈rn.zip zs,RAt w x.1 x.2) (hB:∀ r∈rn,RBnd r) :
  Ret Tryz.prog 69 #[.slice a n c,.slice b m d] w fun v w'=>v = .bool true∧Ext [] w w':=by
 subst hn hm;obtain ⟨w0,rfl⟩:∃ w0,w0=w:=⟨_,rfl⟩;have H:=Ctx.start w0 [];have hzq:(rn.zip qs).length=rn.length:=by rw [List.length_zip]; omega
 have hzz:(rn.zip zs).length=rn.length:=by rw [List.length_zip]; omega
 refine Au (fn:=Tryz.f69) Tryz.func69 U [.slice a rn.length c,.slice b rn.length d] U ?_;refine Ag (Am U (Ab (Aa (Ax (Ag (An U U (Bp I3 U (An U U (Bp I3 U (CQ U U ?_))))))))));refine Ab (Aa (Ay _ U ?_ ?_))
 ·intro h1;replace h1:=Dw h1;omega
 ·intro h1;replace h1:=Dx h1;refine A2 (Aa (Ax (Ag (Ae U (Ab (Aa (A4 (Bt 134215728 (α:=Nat) (fun i=>[(5,.int .i64 (i:Int))]) (fun i w'=>i≤rn.length∧Ctx w0 [] w' []) (fun i=>rn.length - i) 0 U ?_ ?_ ?_))))))))
  ·exact ⟨rfl,trivial⟩
  ·exact ⟨Nat.zero_le _,H⟩
  ·clear H;rintro i j w ⟨hi,H⟩;refine Ax (Ag (Ad U (An U U (Bp I3 U (Bu U U (Ab (Aa (Ay _ U ?_ ?_))))))))
   ·intro h2;replace h2:=AX h2;obtain ⟨r,hr⟩:=AV (l:=rn) (i:=i);obtain ⟨q,hqi⟩:=AV (l:=qs) (i:=i);obtain ⟨z,hzi⟩:=AV (l:=zs) (i:=i);have hx:(rn.zip qs)[i]? = some (r,q):=List.getElem?_zip_eq_some.2 ⟨hr,hqi⟩;have hy:(rn.zip zs)[i]? = some (r,z):=List.getElem?_zip_eq_some.2 ⟨hr,hzi⟩;refine A2 (Aa (Ax (A4 (El 8 Bz U U ?_))));refine Bx U (AJ U (Cf R I3 FQ U U (by omega) ?_));refine Gy _ U MJ FQ U U (by rintro _ rfl; exact ((R.ext0 H.drew.ext).row hx rfl)) ?_;refine Bx U (AJ U (Cf Ry I3 FQ U U (by omega) ?_));refine Gy _ U MJ FQ U U (by rintro _ rfl; exact ((Ry.ext0 H.drew.ext).row hy rfl)) ?_;refine BZ ?_;replace H:=H.drew;refine Ai Wa (QW r q z _ ((K _ (List.mem_of_getElem? hx)).ext0 H.ext) ((Ky _ (List.mem_of_getElem? hy)).ext0 H.ext) (hB r (List.mem_of_getElem? hr))) U ?_
    rintro v w ⟨rfl,hx25⟩;replace H:=H.call hx25;refine C7 U (Ab (Aa (Ay _ U ?_ ?_)))
    ·intro h3;replace h3:=Df h3;cases h3
    ·intro h3;replace h3:=Dg h3;refine A2 (AU (Aa (A5 (Ad U (A3 U U ?_)))));refine Ae U (Ab (Aa ?_));exact ⟨i+1,rfl,⟨rfl,trivial⟩,⟨by omega,H⟩,by omega⟩
   ·intro h2;replace h2:=AY h2;refine Bs (Ao (Ao (AK (Aa (Ag (Am U (Ab (Aa (A9 (AD (v:=(.bool _)) U U U ?_))))))))));exact ⟨rfl,H.ext⟩
structure StZ where
 aA:Option Addr
 cA:Nat
 aD:Option Addr
 cD:Nat
 aR:Option Addr
 cR:Nat
 qs:List RSl
abbrev stC (s:Ld) (z:StZ):List Value:=[.int .i64 s.day,.slice z.aA s.acs.length z.cA,.slice z.aD s.ds.length z.cD,.int .u64 s.nx,.slice z.aR s.rn.length z.cR,.int .u64 s.no,.slice none 0 0]
structure StAt (w:World) (s:Ld) (z:StZ):Prop where
 A:Rd w z.aA 2 Cs s.acs
 D:Rd w z.aD 7 FW s.ds
 R:Rd w z.aR 8 Ll (s.rn.zip z.qs)
 n:z.qs.length=s.rn.length
 K:∀ x∈s.rn.zip z.qs,RAt w x.1 x.2
structure StOff (s:Ld) (z:StZ) (S:Nat→Prop):Prop where
 A:s.acs≠[]→¬ S (adr z.aA).block
 D:s.ds≠[]→¬ S (adr z.aD).block
 R:s.rn≠[]→¬ S (adr z.aR).block
 K:∀ x∈s.rn.zip z.qs,ROff x.2 x.1 S
theorem Xb {rn:List Rnd} {qs:List RSl} (h:rn.zip qs≠[]):rn≠[]:=fun h1=>h (by rw [h1]; rfl)
theorem StOff.mono {s:Ld} {z:StZ} {S S':Nat→Prop} (h:StOff s z S) (hs:∀ x,S' x→S x):StOff s z S':=⟨fun g k=>h.A g (hs _ k),fun g k=>h.D g (hs _ k),fun g k=>h.R g (hs _ k),fun x hx=>(h.K x hx).mono hs⟩
theorem StOff.or {s:Ld} {z:StZ} {S S':Nat→Prop} (h:StOff s z S) (k:StOff s z S'):StOff s z (fun x=>S x∨S' x):=⟨fun g x=>x.elim (h.A g) (k.A g),fun g x=>x.elim (h.D g) (k.D g),fun g x=>x.elim (h.R g) (k.R g),fun x hx=>(h.K x hx).or (k.K x hx)⟩
theorem StAt.ext {w w':World} {s:Ld} {z:StZ} {S:List Nat} (h:StAt w s z) (he:Ext S w w') (hn:StOff s z (·∈S)):StAt w' s z :=
 ⟨h.A.ext' he hn.A,h.D.ext' he hn.D,h.R.ext' he fun g=>hn.R (Xb g),h.n,fun x hx=>(h.K x hx).ext he (hn.K x hx)⟩
theorem StAt.ext0 {w w':World} {s:Ld} {z:StZ} (h:StAt w s z) (he:Ext [] w w'):StAt w' s z :=
 h.ext he ⟨fun _=>by simp,fun _=>by simp,fun _=>by simp,fun x _=>⟨fun _=>by simp,fun _=>by simp,fun _=>by simp,fun _=>by simp⟩⟩
theorem StAt.lt {w:World} {s:Ld} {z:StZ} (h:StAt w s z):StOff s z (fun x=>w.heap.size≤x) :=
 ⟨fun g=>Nat.not_le.2 (h.A.lt' (fun _ _=>rfl) (by decide) g),fun g=>Nat.not_le.2 (h.D.lt' (fun _ _=>rfl) (by decide) g),fun g=>Nat.not_le.2 (h.R.lt' (fun _ _=>rfl) (by decide) fun h1=>g (by
  have h2:=congrArg List.length h1;rw [List.length_zip,h.n,Nat.min_self] at h2
  exact List.length_eq_zero_iff.1 h2)),fun x hx=>(h.K x hx).lt⟩
theorem TZ {bd b:Nat} {nx:Int} (w:World) (hd:w.heap[bd]? = some (Bl 176 (DU b nx))):Ret Tryz.prog 72 #[ptr bd] w fun v w'=>v = .int .u64 nx∧Ext [] w w':=by
 obtain ⟨w0,rfl⟩:∃ w0,w0=w:=⟨_,rfl⟩;have H:=Ctx.start w0 [];refine Au (fn:=Tryz.f72) Tryz.func72 U [.pointer (some ⟨bd,0,none⟩)] U ?_;refine Ag (Ae U (Ab (Aa (Ax (Ag (AA U (Cg SB U ?_)))))));refine Ab (Aa (Ay _ U ?_ ?_))
 ·intro h1;cases h1
 ·intro h1;refine A2 (Aa (Ag (AA U (Bb U (Ah S1 U (BN Bm U ((by rw [A6 hd]; rfl)) ?_))))));refine Ae U (Ab (Aa (A9 (AD (v:=(.int _ _)) U U U ?_))));exact ⟨rfl,H.ext⟩
set_option maxRecDepth 20000 in
set_option maxHeartbeats 2000000 in
theorem QY {m:Lm} {s:Ld} {T:Nat→Prop} {S:List Nat} {w0:World} (w:World) (I:LdIn w m s T) (H0:Ctx w0 S w (LL m s)) :
  Ret Tryz.prog 37 #[ptr m.bl] w fun v w'=>Ext [] w w'∧∃ z,v = .agg (stC s z).toArray∧StAt w' s z∧StOff s z (fun x=>x<w.heap.size):=by
 obtain ⟨w1,rfl⟩:∃ w1,w1=w:=⟨_,rfl⟩;have hbl:=H0.get at0;have hbr:=H0.get at1;have hba:=H0.get at2;have hbd:=H0.get at3;have hb:=H0.get at4;have RA0:Rd w1 m.a 2 Cs s.acs:=OS.rd (t:=51) I.O (fun y hy=>H0.blk y (List.mem_append_right [_,_,_,_,_] hy)) (fun _ _=>rfl) (by decide);have hn16:=(CU.1 I.ok.ac).1;obtain ⟨h64,-,h3d,-⟩:=FY I.ok.du;have H:=Ctx.start w1 [];refine Au (fn:=Tryz.f37) Tryz.func37 U [.pointer (some ⟨m.bl,0,none⟩)] U ?_;refine Ag (B5 I6 H ?_);rintro b2 w - H;refine Ab (Aa (Ax (Ag (AA U (Cg V6 U ?_)))));refine Ab (Aa (Ay _ U ?_ ?_))
 ·intro h1;cases h1
 ·intro h1;refine A2 (Aa (BT [([0,1,2,3,4,5,6,7,9,10,11,12,14,15,16,17,19,20,21,22,24,25,26,27],8),([],13),([],18),([],23),([],28),([29],30)] (fun z=>Ext [] w1 z) [30] Bz (H.drew.ext) ?_));refine A0 U U ?_;refine Cw U (BF U (A8 Sy U (BE CT U (fun _ hx=>(by rw [A6 (hx.to hbl (by simp))]; rfl)) ?_)));refine Cw U (BF U (A8 GY U (BE HM U (fun _ hx=>(by rw [A6 (hx.to hbl (by simp))]; rfl)) ?_)));refine Cw U (BF U (A8 ML U (BE RZ U (fun _ hx=>(by rw [A6 (hx.to hbl (by simp))]; rfl)) ?_)));refine Cw U (BF U (A8 ML U (BE RZ U (fun _ hx=>(by rw [A6 (hx.to hbl (by simp))]; rfl)) ?_)));refine Cw U (BF U (A8 MM U (BE Sa U (fun _ hx=>(by rw [A6 (hx.to hbl (by simp))]; rfl)) ?_)));refine Cw U (BF U (A8 MM U (BE Sa U (fun _ hx=>(by rw [A6 (hx.to hbl (by simp))]; rfl)) ?_)));refine Ba ?_;replace H:=H.drew
  refine Ai ca_70 (To m.a _ m.c s.acs _ (H.ext.to hba (by simp)) (RA0.ext0 H.ext) U) U ?_;rintro v w F;obtain ⟨aA,cA,rfl,RA,hA,-,hxA⟩:=Nr F (fun _ _=>rfl);have hsA:=H.ext.size;have lbA:=Bq (H.get at0);replace H:=H.call hxA;refine Ab (B1 (H.ext) (A0 U U ?_));refine Ba (Ai ca_71 (Tl _ (H.ext.to hbd (by simp)) (H.ext.to hb (by simp)) I.M (Tw I.ok.du)) U ?_);rintro v w ⟨ds',hSd,F⟩;have hde:=Tz hSd (Oo h3d).2.1;rw [hde] at F;obtain ⟨aD,cD,rfl,RD,hD,-,hxD⟩:=Nr F (fun _ _=>rfl);have hsD:=H.ext.size;have lbD:=Bq (H.get at0);replace H:=H.call hxD;replace RA:=RA.ext0 hxD;refine Ab (B1 (H.ext) (A0 U U ?_));refine Ba (Ai ca_72 (TZ _ (H.ext.to hbd (by simp))) U ?_);rintro v w ⟨rfl,hxN⟩;replace H:=H.call hxN;replace RA:=RA.ext0 hxN;replace RD:=RD.ext0 hxN;refine Ab (B1 (H.ext) (A0 U U ?_));refine Ba ?_;have lsR:=H.ext.size;have lbR:=Bq (H.get at0)
  refine Ai ca_73 (QV _ (I.grow H.ext (by simp) (Grows.refl _ _) fun x hx=>Nat.lt_of_lt_of_le (I.low x hx) H.size) (H.ext.to hbr (by simp))) U ?_;rintro v w ⟨hxR,aR,cR,qs,rfl,hql,RR,hR,hK⟩;have hsR:=hxR.size;replace H:=H.call hxR;replace RA:=RA.ext0 hxR;replace RD:=RD.ext0 hxR;refine Ab (B1 (H.ext) (A0 U U ?_));refine Ba (Ai ca_74 (WZ _ (H.ext.to hbr (by simp)) I.no) U ?_);rintro v w ⟨rfl,hxO⟩;have hKO:=fun x hx=>(hK x hx).1.ext0 hxO;replace RA:=RA.ext0 hxO;replace RD:=RD.ext0 hxO;replace RR:=RR.ext0 hxO;replace H:=H.call hxO;have H8:=H;obtain ⟨w8,rfl⟩:∃ z,z=w:=⟨_,rfl⟩;clear H;have H:=Ctx.start1 (H8.get at0);refine Ab (B1 (H8.ext) (A0 U U ?_));refine M3 (stC s ⟨aA,cA,aD,cD,aR,cR,qs⟩) U S8 I6 ?_;refine Ba (BB FP U U U (by exact (by simp [AR])) H at0 U ?_);rintro w H;refine Ab (Bo U (B6 (A9 (E6 U U U KE FP H at0 U ?_))))
  have Z8:StAt w8 s ⟨aA,cA,aD,cD,aR,cR,qs⟩:=⟨RA,RD,RR,hql,hKO⟩;have off:StOff s ⟨aA,cA,aD,cD,aR,cR,qs⟩ (fun x=>x<w1.heap.size∨x=b2):=⟨fun g k=>by have:=hA g; dsimp only at k; omega,fun g k=>by have:=hD g; dsimp only at k; omega,fun g k=>by have:=hR g; dsimp only at k; omega,fun x hx=>(hK x hx).2.mono fun y hy=>by omega⟩;have hbw:w1.heap.size≤b2:=(H8.own (b2,_) (List.mem_of_getElem? at0)).elim (fun h=>by cases h) id;exact ⟨H8.ext.then H.ext (fun x hx => .inr (by rw [List.mem_singleton.1 hx]; exact hbw)),⟨aA,cA,aD,cD,aR,cR,qs⟩,rfl,Z8.ext H.ext (off.mono fun x hx => .inr (List.mem_singleton.1 hx)),off.mono fun x hx => .inl hx⟩
end Go.Proofs.YtibemkominehdaaGreat
namespace Go.Proofs.YtibemkominehdaaGreat
open Go.GV
attribute [local irreducible] Al W Wq Wt
def plcN (acs:List Ac) (ds:List Du) (k i:Nat):Int:=(acs.getD k a00).ba+BO ((ds.take i).map fun d=>plc k d*d.am)
end Go.Proofs.YtibemkominehdaaGreat
namespace Go.Proofs.YtibemkominehdaaGreat
open Go.GV
attribute [local irreducible] Al W Wq Wt
end Go.Proofs.YtibemkominehdaaGreat
namespace Go.Proofs.YtibemkominehdaaGreat
open Go.GV
attribute [local irreducible] Al W Wq Wt
end Go.Proofs.YtibemkominehdaaGreat
namespace Go.Proofs.YtibemkominehdaaGreat
open Go.GV
attribute [local irreducible] Al W Wq Wt
end Go.Proofs.YtibemkominehdaaGreat
namespace Go.Proofs.YtibemkominehdaaGreat
open Go.GV
attribute [local irreducible] Al W Wq Wt
end Go.Proofs.YtibemkominehdaaGreat
namespace Go.Proofs.YtibemkominehdaaGreat
open Go.GV
attribute [local irreducible] Al W Wq Wt
def VK (w:World) (m:Lm) (s:Ld) (T:Nat→Prop) (k:Ak) (v:Value) (w':World):Prop :=
 ∃ a n c full p s' m' T',v = .agg #[.int .i64 p.e,.slice a n c]∧OS a n c 1 full (p.n.map Eb)∧CV s k s' p∧Ctx w (DA m s) w' (LL m' s'++ent a 2 full)∧LdIn w' m' s' T'∧Grows T T' w∧m'.bl=m.bl
abbrev fnV (f:FuncId):Value := .func (.func f) #[] #[]
abbrev doT:List Value:=[.nilFunc,fnV 53,fnV 54,fnV 55,fnV 56,fnV 57,fnV 58,fnV 59,fnV 60,fnV 61,fnV 62,fnV 62,fnV 63,fnV 64,fnV 65,fnV 66]
def DoFn (k:Ak) (f:FuncId):Prop:=doT[k.kd.toNat]? = some (fnV f)∧Aq Tryz.prog f=true∧∀ {m:Lm} {s:Ld} {T:Nat→Prop} (w:World) (_:LdIn w m s T) (_:Ctx w (DA m s) w (LL m s)),Ret Tryz.prog f #[ptr m.bl,.agg (BW k).toArray] w (Np w m s T k)
theorem Ua {s:Ld} {k:Ak} (h:k.kd=0∨16≤k.kd):CV s k s ⟨1,[]⟩:=by
 have h1:IJ s k=s:=by
  unfold IJ;rw [if_neg (by omega),if_neg (by omega),if_neg (by omega),if_neg (by omega),if_neg (by omega),if_neg (by omega),if_neg (by omega),if_neg (by omega),if_neg (by omega)]
 have h2:Mf s k=⟨1,[]⟩:=by
  unfold Mf;rw [if_neg (by omega),if_neg (by omega),if_neg (by omega),if_neg (by omega),if_neg (by omega),if_neg (by omega),if_neg (by omega),if_neg (by omega),if_neg (by omega),if_neg (by omega),if_neg (by omega),if_neg (by omega),if_neg (by omega)]
 unfold CV;rw [if_neg (by omega)];exact ⟨h1.symm,h2.symm⟩
theorem OG {w w':World} {m m':Lm} {s s':Ld} {T T':Nat→Prop} {k:Ak} {P:List (Nat × Obj)} {a:Option Addr} {n c:Nat} {full:List Value} {p:Rp} (_:LdIn w m s T) (H:Ctx w (DA m s) w' (P++(LL m' s'++ent a 2 full))) (O:OS a n c 1 full (p.n.map Eb)) (hst:CV s k s' p) (I7:LdIn w' m' s' T') (g:Grows T T' w) (hbl:m'.bl=m.bl) :
  VK w m s T k (.agg #[.int .i64 p.e,.slice a n c]) w':=⟨a,n,c,full,p,s',m',T',rfl,O,hst,H.right,I7,g,hbl⟩
abbrev dL:List Nat:=[23,24,25,26,27,28,29,22,30,31,6]
theorem Xc:∀ i j,i<11→j<11→dL.getD i 0=dL.getD j 0→i=j:=fun i j hi hj h=>by
 have h1:∀ a b:Fin 11,dL.getD a.val 0=dL.getD b.val 0→a=b:=by decide
 exact congrArg Fin.val (h1 ⟨i,hi⟩ ⟨j,hj⟩ h)
abbrev dA:Nat→List Nat:=ancT 11 [[],[0],[0,1],[0,1,2],[],[],[0,1,2,3,4,5],[0,1,2,3,4,5,6],[0,1,2,3,4,5,6,7],[0,1,2,3,4,5,6,7],[0,1,2,3,4,5,6,7,8]]
def gD (b3 b5 bl:Nat) (k:Ak) (f:FuncId) (R:Value→Value→World→Prop):Nat→(Nat→Value)→World→Prop
 | 0,V,_=>V 0 = .pointer (some ⟨b3,0+0,none⟩)
 | 1,V,_=>V 1 = .int .u8 k.kd
 | 2,V,_=>V 2 = .pointer (some ⟨b5,0+k.kd.toNat*1,none⟩)
 | 3,V,_=>V 3=fnV f
 | 4,V,_=>V 4 = .pointer (some ⟨bl,0,none⟩)
 | 5,V,_=>V 5 = .agg (BW k).toArray
 | 6,V,w=>∃ x y,V 6 = .tuple #[x,y]∧R x y w
 | 7,V,_=>V 7=V 6
 | 8,V,_=>∃ x y,V 7 = .tuple #[x,y]∧V 8=x
 | 9,V,_=>∃ x y,V 7 = .tuple #[x,y]∧V 9=y
 | 10,V,_=>V 10=V 8
 | _,_,_=>True
theorem Xd {b3 b5 bl:Nat} {k:Ak} {f:FuncId} {R:Value→Value→World→Prop}:∀ (i j:Nat) (v:Value) (V:Nat→Value) (w:World),i<11→j≠i→j∉dA i→gD b3 b5 bl k f R i V w→gD b3 b5 bl k f R i (GR V j v) w
 | 0,j,v,V,w,_,h1,_,h=>(Cc (Ne.symm h1)).trans h
 | 1,j,v,V,w,_,h1,_,h=>(Cc (Ne.symm h1)).trans h
 | 2,j,v,V,w,_,h1,_,h=>(Cc (Ne.symm h1)).trans h
 | 3,j,v,V,w,_,h1,_,h=>(Cc (Ne.symm h1)).trans h
 | 4,j,v,V,w,_,h1,_,h=>(Cc (Ne.symm h1)).trans h
 | 5,j,v,V,w,_,h1,_,h=>(Cc (Ne.symm h1)).trans h
 | 6,j,v,V,w,_,h1,_,h=>by
  obtain ⟨x,y,h3,h4⟩:=h;exact ⟨x,y,(Cc (Ne.symm h1)).trans h3,h4⟩
 | 7,j,v,V,w,_,h1,h2,h=>by
  have h6:j≠6:=fun e=>h2 (by rw [e]; decide);exact ((Cc (Ne.symm h1)).trans h).trans (Cc (Ne.symm h6)).symm
 | 8,j,v,V,w,_,h1,h2,h=>by
  have h7:j≠7:=fun e=>h2 (by rw [e]; decide);obtain ⟨x,y,h3,h4⟩:=h;exact ⟨x,y,(Cc (Ne.symm h7)).trans h3,(Cc (Ne.symm h1)).trans h4⟩
 | 9,j,v,V,w,_,h1,h2,h=>by
  have h7:j≠7:=fun e=>h2 (by rw [e]; decide);obtain ⟨x,y,h3,h4⟩:=h;exact ⟨x,y,(Cc (Ne.symm h7)).trans h3,(Cc (Ne.symm h1)).trans h4⟩
 | 10,j,v,V,w,_,h1,h2,h=>by
  have h8:j≠8:=fun e=>h2 (by rw [e]; decide);exact ((Cc (Ne.symm h1)).trans h).trans (Cc (Ne.symm h8)).symm
 | i+11,_,_,_,_,h,_,_,_=>by omega
theorem gD_w {b3 b5 bl:Nat} {k:Ak} {f:FuncId} {R:Value→Value→World→Prop}:∀ (i:Nat) (V:Nat→Value) (w w':World),i<11→i≠6→6∉dA i→gD b3 b5 bl k f R i V w→gD b3 b5 bl k f R i V w'
 | 0,_,_,_,_,_,_,h=>h
 | 1,_,_,_,_,_,_,h=>h
 | 2,_,_,_,_,_,_,h=>h
 | 3,_,_,_,_,_,_,h=>h
 | 4,_,_,_,_,_,_,h=>h
 | 5,_,_,_,_,_,_,h=>h
 | 6,_,_,_,_,h,_,_=>absurd rfl h
 | 7,_,_,_,_,_,_,h=>h
 | 8,_,_,_,_,_,_,h=>h
 | 9,_,_,_,_,_,_,h=>h
 | 10,_,_,_,_,_,_,h=>h
 | i+11,_,_,_,h,_,_,_=>by omega
structure DoZ where
 a:Option Addr
 n:Nat
 c:Nat
 full:List Value
 code:Int
 l:List Int
 s:Ld
 m:Lm
set_option maxRecDepth 20000 in
set_option maxHeartbeats 1000000 in
theorem Xe {m:Lm} {s:Ld} {T:Nat→Prop} {k:Ak} (hin:AkIn k) (hdo:k.kd≠0→k.kd<16→∃ f,DoFn k f) (w:World) (I:LdIn w m s T) (H0:Ctx w (DA m s) w (LL m s)) :
  Ret Tryz.prog 33 #[ptr m.bl,.agg (BW k).toArray] w (VK w m s T k):=by
 obtain ⟨w0,rfl⟩:∃ w0,w0=w:=⟨_,rfl⟩;have hkd:=hin.kd;obtain ⟨S0,hS0⟩:∃ S,S=DA m s:=⟨_,rfl⟩;have H:Ctx w0 S0 w0 (LL m s):=by rw [hS0]; exact H0
 refine Au (fn:=Tryz.f33) Tryz.func33 U [.pointer (some ⟨m.bl,0,none⟩),.agg (BW k).toArray] U ?_;refine Ag (BK (BW k) (.agg _) U U H ?_);rintro b3 w - H;refine B5 FR H ?_;rintro b4 w - H;refine Ab (Aa (Ax (Ag (AA U (Cg V6 U ?_)))));refine Ab (Aa (Ay _ U ?_ ?_))
 ·intro h1;cases h1
 ·intro h1;refine A2 (Aa (Ag (Qj doT U Sf SA SF ?_)));refine B5 SF H ?_;rintro b5 w - H;refine BB W9 U U U (by exact (by simp [AR])) H at0 U ?_;rintro w H;refine Ab (Aa (Ax (Ag (CK (α:=Unit) 2093056 (fun _=>[(20,.bool ((decide (k.kd=0) || decide (16≤k.kd))))]) (fun _ w'=>Ctx w0 S0 w' ((b5,Bl 141 doT)::(b4,Bl 85 [.int .i64 0,.slice none 0 0])::(b3,Bl 34 (BW k))::LL m s)) U ?_ ?_))))
  ·refine Ah Fj U (AH GS U H at2 U (Cp U U (Ap U (AZ 15 U ?_ ?_))))
   ·intro h1;replace h1:=AX h1;refine Af U (Af U (Af U (Af U (Av U (.bool _) U (Ab ?_)))));exact ⟨rfl,(),rfl,⟨congrArg Value.bool (by rw [Bool.eq_iff_iff]; simp_all; try omega),trivial⟩,H⟩
   ·intro h2;replace h2:=AY h2;refine Ah Fj U (AH GS U H at2 U (BP U Er E0 ?_));refine Ci U U (AE U (.bool _) U (Ab ?_));exact ⟨rfl,(),rfl,⟨congrArg Value.bool (by rw [Bool.eq_iff_iff]; simp_all; try omega),trivial⟩,H⟩
  rintro - j20 w H;refine Ay _ U ?_ ?_
  ·intro h2;have h2':k.kd=0∨16≤k.kd:=by simpa using h2
   refine Ag (Bn [.int .i64 1,.slice none 0 0] KL FR ?_);refine BB ES U U U (by exact (by simp [AR])) H at1 U ?_;rintro w H;refine Ab (Aa (A9 (A7 (E6 U U U KH ES H at1 U ?_))));have H17:=H;subst hS0;exact OG (P:=[_,_,_]) (m':=m) (s':=s) (T':=T) (p:=⟨1,[]⟩) (full:=[]) I (H17.app_nil) OS.nil (Ua h2') (I.grow H17.ext (fun x hx => .inl (I.own x hx)) (Grows.refl _ _) fun x hx=>Nat.lt_of_lt_of_le (I.low x hx) H17.size) (Grows.refl _ _) U
  ·intro h2;have h2':¬ (k.kd=0∨16≤k.kd):=by simpa using h2
   obtain ⟨f,hf1,hf2,hf3⟩:=hdo (fun h=>h2' (.inl h)) (by omega)
   have hown:∀ x,x∈[b5,b4,b3]→T x∨w0.heap.size≤x:=fun x hx=>by
    simp only [List.mem_cons,List.not_mem_nil,or_false] at hx
    rcases hx with rfl | rfl | rfl
    ·exact (H.own (_,_) (List.mem_of_getElem? at0)).imp_left fun h=>I.own _ (hS0 ▸ h)
    ·exact (H.own (_,_) (List.mem_of_getElem? at1)).imp_left fun h=>I.own _ (hS0 ▸ h)
    ·exact (H.own (_,_) (List.mem_of_getElem? at2)).imp_left fun h=>I.own _ (hS0 ▸ h)
   have hlt:∀ x,x∈[b5,b4,b3]→x<w.heap.size:=fun x hx=>by
    simp only [List.mem_cons,List.not_mem_nil,or_false] at hx
    rcases hx with rfl | rfl | rfl
    ·exact Bq (H.get at0)
    ·exact Bq (H.get at1)
    ·exact Bq (H.get at2)
   have g1:Grows T (fun x=>T x∨x∈[b5,b4,b3]) w0:=⟨fun x hx => .inl hx,fun x hx=>hx.elim .inl (hown x)⟩;have I1:LdIn w m s (fun x=>T x∨x∈[b5,b4,b3]):=I.grow H.ext (fun x hx => .inl (I.own x (hS0 ▸ hx))) g1 fun x hx=>hx.elim (fun h=>Nat.lt_of_lt_of_le (I.low x h) H.size) (hlt x);refine A2 (Aa (DN 4290773184 (α:=DoZ) (fun z=>[(6,.slice z.a z.n z.c),(7,.int .i64 z.code)]) (fun z w'=>OS z.a z.n z.c 1 z.full (z.l.map Eb)∧CV s k z.s (rp z.l z.code)∧Ctx w0 S0 w' ((b5,Bl 141 doT)::(b4,Bl 85 [.int .i64 0,.slice none 0 0])::(b3,Bl 34 (BW k))::(LL z.m z.s++ent z.a 2 z.full))∧LdIn w' z.m z.s (fun x=>(T x∨x∈[b5,b4,b3])∨x∈DA z.m z.s)∧z.m.bl=m.bl) U ?_ ?_))
   ·skip
    have H9:=H.drew;have I2:=I1.grow (Ext.drew [] _) (fun x hx=>by cases hx) (Grows.refl _ _) I1.low;refine U8 (n:=11) (N:=12) (anc:=dA) 6 (fun i=>dL.getD i 0) (gD b3 b5 m.bl k f (fun x y w'=>∃ z:DoZ,x = .slice z.a z.n z.c∧y = .int .i64 z.code∧OS z.a z.n z.c 1 z.full (z.l.map Eb)∧CV s k z.s (rp z.l z.code)∧Ctx w0 S0 w' ((b5,Bl 141 doT)::(b4,Bl 85 [.int .i64 0,.slice none 0 0])::(b3,Bl 34 (BW k))::(LL z.m z.s++ent z.a 2 z.full))∧LdIn w' z.m z.s (fun x=>(T x∨x∈[b5,b4,b3])∨x∈DA z.m z.s)∧z.m.bl=m.bl)) (show Tryz.prog.follows .mixedOrders=true by kernel_rfl) U (K9 _) Xc Xd gD_w ?_ ?_ ?_
    ·intro i o e' w' V hi hic ho hold hg hG hw;have h3:e'.g 3 = .pointer (some ⟨b3,0,none⟩):=(hold 3 ((by decide:∀ j,j<11→3≠dL.getD j 0))).trans rfl;have h5:e'.g 5 = .pointer (some ⟨b5,0,none⟩):=(hold 5 ((by decide:∀ j,j<11→5≠dL.getD j 0))).trans rfl;have h0:e'.g 0 = .pointer (some ⟨m.bl,0,none⟩):=(hold 0 ((by decide:∀ j,j<11→0≠dL.getD j 0))).trans rfl;have hcs:i=0∨i=1∨i=2∨i=3∨i=4∨i=5∨i=7∨i=8∨i=9∨i=10:=by omega
     rcases hcs with rfl | rfl | rfl | rfl | rfl | rfl | rfl | rfl | rfl | rfl
     ·cases Option.some.inj ho;exact Ah (off:=0) (by kernel_rfl) h3 (Ab ⟨_,rfl,rfl,Co ..⟩)
     ·cases Option.some.inj ho;have hww:=hw (by decide);subst hww;exact BN GS ((hg 0 (by decide)).trans (hG 0 (by decide))) (v := .int .u8 k.kd) (by rw [A6 (H9.get at2)]; rfl) (Ab ⟨_,rfl,rfl,Co ..⟩)
     ·cases Option.some.inj ho;exact Ms U Sf SA h5 ((hg 1 (by decide)).trans (hG 1 (by decide))) (Ab ⟨_,rfl,rfl,Co ..⟩)
     ·cases Option.some.inj ho;have hww:=hw (by decide);subst hww;exact BN VU ((hg 2 (by decide)).trans (hG 2 (by decide))) (v:=fnV f) (by rw [A6 (H9.get at0),Nat.zero_add,Nat.mul_one]; exact hf1) (Ab ⟨_,rfl,rfl,Co ..⟩)
     ·cases Option.some.inj ho;exact C3 U _ h0 (Ab ⟨_,rfl,rfl,Co ..⟩)
     ·cases Option.some.inj ho;have hww:=hw (by decide);subst hww;exact Em (BW k) Ix F1 h3 U (CB (b:=b3) (t:=34) (l:=BW k) (H9.get at2) 0 (BW k) U) (Ab ⟨_,rfl,rfl,Co ..⟩)
     ·cases Option.some.inj ho;exact C3 U (V 6) (hg 6 (by decide)) (Ab ⟨_,rfl,rfl,(Co ..).trans (Cc (by decide)).symm⟩)
     ·cases Option.some.inj ho;obtain ⟨x,y,h6,-⟩:=hG 6 (by decide);have h7:V 7 = .tuple #[x,y]:=(hG 7 (by decide)).trans h6;exact AO (v:=x) ((hg 7 (by decide)).trans h7) U (Ab ⟨_,rfl,rfl,x,y,(Cc (by decide)).trans h7,Co ..⟩)
     ·cases Option.some.inj ho;obtain ⟨x,y,h6,-⟩:=hG 6 (by decide);have h7:V 7 = .tuple #[x,y]:=(hG 7 (by decide)).trans h6;exact AO (v:=y) ((hg 7 (by decide)).trans h7) U (Ab ⟨_,rfl,rfl,x,y,(Cc (by decide)).trans h7,Co ..⟩)
     ·cases Option.some.inj ho;exact CX U (V 8) (hg 8 (by decide)) (Ab ⟨_,rfl,rfl,(Co ..).trans (Cc (by decide)).symm⟩)
    ·intro o e' V ho hold hg hG;cases Option.some.inj ho;refine Jo U ((hg 3 (by decide)).trans (hG 3 (by decide))) hf2 (hf3 _ I2 (Ctx.lend (Ctx.comm (L:=[_,_,_]) (L':=LL m s) H9))) (show [e'.g 27,e'.g 28]=_ by rw [show e'.g 27=_ from (hg 4 (by decide)).trans (hG 4 (by decide)),show e'.g 28=_ from (hg 5 (by decide)).trans (hG 5 (by decide))]) ?_;rintro v w2 ⟨ar,nr,cr,fr,code,lr,s',m',rfl,Or,hst,H7,hnew,I7,hbl⟩;exact Ab ⟨_,rfl,_,_,Co ..,⟨ar,nr,cr,fr,code,lr,s',m'⟩,rfl,rfl,Or,hst,(Ctx.back (L1:=LL m s) (Ctx.comm (L:=[_,_,_]) (L':=LL m s) H9) H7).comm,I7,hbl⟩
    ·intro e' w' V hds hold hg hG;obtain ⟨x,y,h6,z,rfl,rfl,hJ⟩:=hG 6 (by decide);obtain ⟨x1,y1,h71,h8⟩:=hG 8 (by decide);obtain ⟨x2,y2,h72,h9⟩:=hG 9 (by decide);have h7:V 7=V 6:=hG 7 (by decide);have h10:V 10=V 8:=hG 10 (by decide);rw [h7,h6] at h71 h72;cases h71;cases h72;refine CX U (.int .i64 z.code) ((hg 9 (by decide)).trans h9) (Ab ?_);exact ⟨z,hds,⟨(Cu (by decide)).trans ((hg 10 (by decide)).trans (h10.trans h8)),CG ..,trivial⟩,hJ⟩
   ·rintro ⟨ar,nr,cr,fr,code,lr,s',m'⟩ j8 w ⟨Or,hst,H8,I7,hbl⟩; dsimp only at Or hst H8 I7 hbl; obtain ⟨w2,rfl⟩:∃ z,z=w:=⟨_,rfl⟩; clear H; have H:=Ctx.start1 (H8.get at1);have hS8:=H8.size
    have g2:Grows T (fun x=>(T x∨x∈[b5,b4,b3])∨x∈DA m' s') w0:=⟨fun x hx => .inl (.inl hx),fun x hx=>hx.elim (fun h=>h.elim .inl (hown x)) fun h=>by
     obtain ⟨y,hy,rfl⟩:=List.mem_map.1 h
     exact (H8.own y (List.mem_append_right [_,_,_] (List.mem_append_left _ hy))).imp_left fun h=>I.own _ (hS0 ▸ h)⟩
    have h4:∀ x∈[b4],((T x∨x∈[b5,b4,b3])∨x∈DA m' s')∨w2.heap.size≤x:=fun x hx=>by rw [List.mem_singleton.1 hx]; exact .inl (.inl (.inr (by simp)))
    refine Ax (Ag (Ad U (CQ U U (Ab (Aa (Ay _ U ?_ ?_))))))
    ·intro h3;replace h3:=Dw h3;refine Ag (Ad U (Bn [.int .i64 code,.slice none 0 0] KL FR ?_));refine BB ES U U U (by exact (by simp [AR])) H at0 U ?_;rintro w H;refine Ab (Aa (A9 (A7 (E6 U U U KH ES H at0 U ?_))));have H17:=H;subst hS0;have hp:rp lr code=⟨code,[]⟩:=TH (h:=h3);rw [hp] at hst;exact OG (P:=[_,_,_]) (m':=m') (s':=s') (p:=⟨code,[]⟩) (full:=[]) I (Ctx.app_nil (Ctx.left (L:=(_::_::_::LL m' s')) (Ctx.mid (B:=[_]) (L:=[_]) H8 H17))) OS.nil hst (I7.grow H17.ext h4 (Grows.refl _ _) fun x hx=>Nat.lt_of_lt_of_le (I7.low x hx) H17.size) g2 hbl
    ·intro h3;replace h3:=Dx h3;obtain rfl:code=0:=h3;refine A2 (Aa (Ag (An U U (Bn [.int .i64 0,.slice ar nr cr] KL FR ?_))));refine BB ES U U U (by exact (by simp [AR])) H at0 U ?_;rintro w H;refine Ab (Aa (A9 (E6 U U U KH ES H at0 U ?_)));have H17:=H;subst hS0;exact OG (P:=[_,_,_]) (m':=m') (s':=s') (p:=⟨0,lr⟩) I (Ctx.mid (B:=[_]) (L:=[_]) H8 H17) Or hst (I7.grow H17.ext h4 (Grows.refl _ _) fun x hx=>Nat.lt_of_lt_of_le (I7.low x hx) H17.size) g2 hbl
end Go.Proofs.YtibemkominehdaaGreat
namespace Go.Proofs.YtibemkominehdaaGreat
open Go.GV
attribute [local irreducible] Al W Wq Wt
set_option maxRecDepth 20000 in
set_option maxHeartbeats 2000000 in
theorem Ub {s:Ld} {z y:StZ} (w:World) (Z:StAt w s z) (Y:StAt w s y) (hB:∀ r∈s.rn,RBnd r)  (hl1:s.acs.length≤1000000:=by decide) (hl2:s.ds.length≤1000000:=by decide) (hl3:s.rn.length≤1000000:=by decide):
  Ret Tryz.prog 35 #[.agg (stC s z).toArray,.agg (stC s y).toArray] w fun v w'=>v = .bool true∧Ext [] w w':=by
 obtain ⟨w0,rfl⟩:∃ w0,w0=w:=⟨_,rfl⟩;have H:=Ctx.start w0 [];refine Au (fn:=Tryz.f35) Tryz.func35 U [.agg (stC s z).toArray,.agg (stC s y).toArray] U ?_;refine Ag (BK (stC s z) (.agg _) U U H ?_);rintro b2 w - H;refine BK (stC s y) (.agg _) U U H ?_;rintro b3 w - H;refine Am U (Ab (Aa (Ag (CK (α:=Unit) 35184372088816 (fun _=>[(4,.bool (true))]) (fun _ w'=>Ctx w0 [] w' [(b3,Bl 44 (stC s y)),(b2,Bl 44 (stC s z))]) U ?_ ?_))))
 ·refine Ah Po U (AH CT U H at1 U (Ah Po U (AH CT U H at0 U (Cp U U (Ap U (AZ 10 U ?_ ?_))))))
  ·intro h1;replace h1:=AX h1;refine Ah Pq U (AH Bm U H at1 U (Ah Pq U (AH Bm U H at0 U (Cp U U (Av U (.bool _) U (Ap U (AZ 17 U ?_ ?_)))))))
   ·intro h2;replace h2:=AX h2;refine Ah Ps U (AH Bm U H at1 U (Ah Ps U (AH Bm U H at0 U (Cp U U (Av U (.bool _) U (Ap U (AZ 24 U ?_ ?_)))))))
    ·intro h3;replace h3:=AX h3;refine Ah GZ U (AH EA U H at1 U (Ah GZ U (AH EA U H at0 U (Ai ca_67 (Q6 z.aA y.aA _ z.cA _ y.cA s.acs s.acs _ (Z.A.ext0 H.ext) U hl1 (Y.A.ext0 H.ext) U hl1) U ?_))));rintro v w ⟨rfl,hx29⟩;replace H:=H.call hx29;rw [decide_eq_true rfl];refine Av U (.bool _) U (Ap U (AZ 31 U ?_ ?_))
     ·intro h4;refine Ah Pp U (AH Vp U H at1 U (Ah Pp U (AH Vp U H at0 U (Ai ca_68 (Q7 z.aD y.aD _ z.cD _ y.cD s.ds s.ds _ (Z.D.ext0 H.ext) U hl2 (Y.D.ext0 H.ext) U hl2) U ?_))));rintro v w ⟨rfl,hx36⟩;replace H:=H.call hx36;rw [decide_eq_true rfl];refine Av U (.bool _) U (Ap U (AZ 38 U ?_ ?_))
      ·intro h5;refine Ah Pr U (AH Vq U H at1 U (Ah Pr U (AH Vq U H at0 U (Ai ca_69 (QX z.aR y.aR _ z.cR _ y.cR s.rn z.qs y.qs _ (Z.R.ext0 H.ext) U hl3 (Y.R.ext0 H.ext) U Z.n Y.n (fun x hx=>(Z.K x hx).ext0 H.ext) (fun x hx=>(Y.K x hx).ext0 H.ext) hB) U ?_))));rintro v w ⟨rfl,hx43⟩;replace H:=H.call hx43;refine Av U (.bool _) U (Am U (Ab ?_));exact ⟨rfl,(),rfl,⟨congrArg Value.bool (by rfl),trivial⟩,H⟩
      ·intro h6;refine Af U (Af U (Af U (Af U (Af U (AE U (.bool _) U (Am U (Ab ?_)))))));exact ⟨rfl,(),rfl,⟨congrArg Value.bool (by (simp_all; done)),trivial⟩,H⟩
     ·intro h7;refine Af U (Af U (Af U (Af U (Af U (AE U (.bool _) U (Ap U (Af U (Af U (Af U ?_)))))))));refine Af U (Af U (AE U (.bool _) U (Am U (Ab ?_))));exact ⟨rfl,(),rfl,⟨congrArg Value.bool (by (simp_all; done)),trivial⟩,H⟩
    ·intro h8;replace h8:=AY h8;refine Af U (Af U (Af U (Af U (Af U (AE U (.bool _) U (Ap U (Af U (Af U (Af U ?_)))))))));refine Af U (Af U (AE U (.bool _) U (Ap U (Af U (Af U (Af U (Af U (Af U (AE U (.bool _) U ?_)))))))));refine Am U (Ab ?_);exact ⟨rfl,(),rfl,⟨congrArg Value.bool (by (simp_all; done)),trivial⟩,H⟩
   ·intro h9;replace h9:=AY h9;refine Af U (Af U (Af U (Af U (Af U (AE U (.bool _) U (Ap U (Af U (Af U (Af U ?_)))))))));refine Af U (Af U (AE U (.bool _) U (Ap U (Af U (Af U (Af U (Af U (Af U (AE U (.bool _) U ?_)))))))));refine Ap U (Af U (Af U (Af U (Af U (Af U (AE U (.bool _) U (Am U (Ab ?_))))))));exact ⟨rfl,(),rfl,⟨congrArg Value.bool (by (simp_all; done)),trivial⟩,H⟩
  ·intro h10;replace h10:=AY h10;refine Af U (Af U (Af U (Af U (Af U (AE U (.bool _) U (Ap U (Af U (Af U (Af U ?_)))))))));refine Af U (Af U (AE U (.bool _) U (Ap U (Af U (Af U (Af U (Af U (Af U (AE U (.bool _) U ?_)))))))));refine Ap U (Af U (Af U (Af U (Af U (Af U (AE U (.bool _) U (Ap U (Af U (Af U ?_)))))))));refine Af U (Af U (Af U (AE U (.bool _) U (Am U (Ab ?_)))));exact ⟨rfl,(),rfl,⟨congrArg Value.bool (by (simp_all; done)),trivial⟩,H⟩
 rintro - j4 w H;refine A9 (AD (v:=(.bool _)) U U U ?_);exact ⟨rfl,H.ext⟩
end Go.Proofs.YtibemkominehdaaGreat
namespace Go.Proofs.YtibemkominehdaaGreat
open Go.GV
attribute [local irreducible] Al W Wq Wt
theorem Hr {s s':Ld} {k:Ak} {p:Rp} (h:CV s k s' p) (hk:¬ (k.kd=10∨k.kd=11)):s'=IJ s k∧p=Mf s k:=by
 unfold CV at h;rw [if_neg hk] at h;exact h
theorem Ctx.did {w0 w w':World} {S:List Nat} {B E:List (Nat × Obj)} {m m':Lm} {s s':Ld} (H:Ctx w0 S w (B++LL m s)) (H7:Ctx w (DA m s) w' (LL m' s'++E)):Ctx w0 S w' ((E++B)++LL m' s'):=by
 have h1:=Ctx.back (L1:=LL m s) (L2:=B) H.comm H7;rw [List.append_assoc] at h1;exact h1.comm
structure Led (bl:Nat) (w0 w:World) (B:List (Nat × Obj)) (m:Lm) (s:Ld) (T:Nat→Prop):Prop where
 H:Ctx w0 [] w (B++LL m s)
 I:LdIn w m s T
 e:m.bl=bl
theorem Led.next {bl:Nat} {w0 w w':World} {B E:List (Nat × Obj)} {m:Lm} {s:Ld} {T:Nat→Prop} (L:Led bl w0 w B m s T) (H:Ctx w [] w' E):Led bl w0 w' (E++B) m s T :=
 ⟨by rw [List.append_assoc]; exact Ctx.back (L1:=[]) (L2:=B++LL m s) L.H H,L.I.grow H.ext (by simp) (Grows.refl _ _) fun x hx=>Nat.lt_of_lt_of_le (L.I.low x hx) H.size,L.e⟩
abbrev ak (kd a b x w u id:Int):Ak:=⟨kd,a,b,x,w,u,id⟩
abbrev yA0:List Ac:=[⟨5,0⟩,⟨0,0⟩]
abbrev yA1:List Ac:=[⟨0,0⟩,⟨5,0⟩]
abbrev yD0:List Du:=[⟨1,0,1,9,2,3,false⟩]
abbrev yD1:List Du:=[⟨1,0,1,4,2,3,false⟩]
abbrev yE0:List Ed:=[⟨0,1,9,-2⟩,⟨2,0,5,0⟩,⟨0,2,4503599627370496,0⟩,⟨2,1,0,0⟩,⟨1,2,4503599627370496,0⟩]
end Go.Proofs.YtibemkominehdaaGreat
namespace Go.Proofs.YtibemkominehdaaGreat
open Go.GV
attribute [local irreducible] Al W Wq Wt
def JP:Ld:=⟨0,[],[],0,[],0⟩
abbrev Kl:StZ:=⟨none,0,none,0,none,0,[]⟩
theorem Uc (w:World):StAt w JP Kl:=⟨Rd.nil,Rd.nil,Rd.nil,rfl,fun x hx=>by cases hx⟩
end Go.Proofs.YtibemkominehdaaGreat
namespace Go.Proofs.YtibemkominehdaaGreat
open Go.GV
attribute [local irreducible] Al W Wq Wt
def addF (k:Ak) (p:Rp):Int:=if p.e=0∧k.kd=2 then k.x else 0
def subF (k:Ak) (p:Rp):Int:=if p.e=0∧k.kd=3 then k.x else 0
theorem Led.drop {bl:Nat} {w0 w:World} {B:List (Nat × Obj)} {m:Lm} {s:Ld} {T:Nat→Prop} (L:Led bl w0 w B m s T):Led bl w0 w [] m s T:=⟨L.H.right,L.I,L.e⟩
theorem Led.call {bl:Nat} {w0 w w':World} {B:List (Nat × Obj)} {m:Lm} {s:Ld} {T:Nat→Prop} (L:Led bl w0 w B m s T) (hx:Ext [] w w'):Led bl w0 w' B m s T:=L.next ((Ctx.start w []).call hx)
theorem Led.low {bl:Nat} {w0 w:World} {B:List (Nat × Obj)} {m:Lm} {s:Ld} {T:Nat→Prop} (L:Led bl w0 w B m s T):∀ x∈DA m s,x<w.heap.size:=fun x hx=>L.I.low x (L.I.own x hx)
theorem QZ {bl:Nat} {w0 w:World} {B:List (Nat × Obj)} {m:Lm} {s:Ld} {T:Nat→Prop} (L:Led bl w0 w B m s T) :
  Ret Tryz.prog 37 #[ptr bl] w fun v w'=>Ext [] w w'∧∃ z,v = .agg (stC s z).toArray∧StAt w' s z∧StOff s z (fun x=>x<w.heap.size):=by
 obtain ⟨H,I,e⟩:=L;subst e;exact QY w I H.right
theorem Led.nextT {bl:Nat} {w0 w w':World} {B E:List (Nat × Obj)} {m:Lm} {s:Ld} {T:Nat→Prop} (L:Led bl w0 w B m s T) (H:Ctx w [] w' E):Led bl w0 w' (E++B) m s (fun x=>T x∨x∈E.map (fun x=>x.1)) :=
 ⟨by rw [List.append_assoc]; exact Ctx.back (L1:=[]) (L2:=B++LL m s) L.H H,L.I.grow H.ext (by simp) ⟨fun x hx => .inl hx,fun x hx=>hx.imp_right fun h=>by
  obtain ⟨y,hy,rfl⟩:=List.mem_map.1 h
  exact (H.own y hy).elim (fun h=>by cases h) id⟩ fun x hx=>hx.elim (fun h=>Nat.lt_of_lt_of_le (L.I.low x h) H.size) fun h=>by
  obtain ⟨y,hy,rfl⟩:=List.mem_map.1 h
  exact Bq (H.blk y hy),L.e⟩
end Go.Proofs.YtibemkominehdaaGreat
