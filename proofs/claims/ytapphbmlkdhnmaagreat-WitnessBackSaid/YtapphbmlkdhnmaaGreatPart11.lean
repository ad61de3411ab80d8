/- Part 11 of the proof. -/
import Derived.Test.YtapphbmlkdhnmaaGreatPart2
import Derived.Test.YtapphbmlkdhnmaaGreatPart10
import Derived.Test.YtapphbmlkdhnmaaGreatPart4
import Derived.Test.YtapphbmlkdhnmaaGreatPart3
/- Nets that are the same; whether a round is one of now, as the reference has it. -/
namespace Go.Proofs.YtapphbmlkdhnmaaGreat
open Go.GV
attribute [local irreducible] A2 W Wq Wt

def Oe (N M:Int) (xs ys:List Ed):Bool:=decide (N=M) && decide (xs=ys)
set_option maxRecDepth 20000 in
set_option maxHeartbeats 2000000 in
theorem SQ (N M:Int) (a b:Option Addr) (n c m d:Nat) (xs ys:List Ed) (w:World) (R:Rd w a 4 Bv xs) (hn:xs.length=n) (hn2:n≤1000000) (Ry:Rd w b 4 Bv ys) (hm:ys.length=m) (hm2:m≤1000000) :
  Ret Tryz.prog 19 #[CG N a n c,CG M b m d] w fun v w'=>v = .bool (Oe N M xs ys)∧Ext [] w w':=by
 subst hn hm
 obtain ⟨w0,rfl⟩:∃ w0,w0=w:=⟨_,rfl⟩
 have H:=Ctx.start w0 []
 refine A1 (fn:=Tryz.f19) Tryz.func19 rfl [CG N a xs.length c,CG M b ys.length d] rfl (by kernel_rfl) ?_
 refine Ag (Bs rfl [.int .i64 N,.slice a xs.length c] (.agg _) rfl rfl H ?_)
 rintro b2 w - H
 refine Bs rfl [.int .i64 M,.slice b ys.length d] (.agg _) rfl rfl H ?_
 rintro b3 w - H
 refine Ai rfl rfl (Ab (Aa (Aq (Ag (B5 (α:=Unit) 1048512 (fun _=>[(19,.bool (!(decide (N=M) && decide (xs.length=ys.length))))]) (fun _ w'=>Ctx w0 [] w' [(b3,Bl 28 [.int .i64 M,.slice b ys.length d]),(b2,Bl 28 [.int .i64 N,.slice a xs.length c])]) rfl ?_ ?_)))))
 ·refine Ah rfl Dn rfl (AA rfl BH rfl H at1 rfl (Ah rfl Dn rfl (AA rfl BH rfl H at0 rfl (CH rfl rfl rfl (Ak rfl rfl (A8 11 rfl ?_ ?_))))))
  ·intro h1
   replace h1:=CO h1
   refine Ae rfl (Ae rfl (Ae rfl (Ae rfl (Ae rfl (Ae rfl (Ae rfl (Am rfl rfl (.bool _) rfl (Ab ?_))))))))
   exact ⟨rfl,(),rfl,⟨congrArg Value.bool (by rw [Bool.eq_iff_iff]; simp_all; try omega),trivial⟩,H⟩
  ·intro h2
   replace h2:=CP h2
   refine Ah rfl BU rfl (AA rfl CI rfl H at1 rfl (AU rfl Ce rfl (Ah rfl BU rfl (AA rfl CI rfl H at0 rfl (AU rfl Ce rfl (CH rfl rfl rfl (A3 rfl rfl (.bool _) rfl (Ab ?_))))))))
   exact ⟨rfl,(),rfl,⟨congrArg Value.bool (by rw [Bool.eq_iff_iff]; simp_all; try omega),trivial⟩,H⟩
 rintro - j19 w H
 refine Ax _ rfl ?_ ?_
 ·intro h1
  replace h1:=Bp h1
  refine Ag (Ai rfl rfl (Ab (Aa (A9 (Al (AB (v:=(.bool _)) rfl rfl rfl ?_))))))
  have h1':¬ (N=M∧xs.length=ys.length):=by simpa using h1
  refine ⟨congrArg Value.bool ?_,H.ext⟩
  unfold Oe
  by_cases h2:N=M
  ·rw [decide_eq_true h2,decide_eq_false (fun h=>h1' ⟨h2,by rw [h]⟩)]; rfl
  ·rw [decide_eq_false h2]; rfl
 ·intro h1
  replace h1:=Bq h1
  have h1':N=M∧xs.length=ys.length:=by simpa using h1
  have hsb:Oe N M xs ys=decide (xs=ys):=by unfold Oe; rw [decide_eq_true h1'.1]; rfl
  have hle:=h1'.2
  rw [hsb]
  refine Av (Aa (Aq (Ag (Af rfl rfl (Ab (Aa (Au (Bi 274876858416 (α:=Nat) (fun i=>[(5,.int .i64 (i:Int))]) (fun i w'=>i≤xs.length∧Ctx w0 [] w' [(b3,Bl 28 [.int .i64 M,.slice b ys.length d]),(b2,Bl 28 [.int .i64 N,.slice a xs.length c])]∧∀ (k:Nat) (x y:Ed),k<i→xs[k]? = some x→ys[k]? = some y→x=y) (fun i=>xs.length - i) 0 rfl ?_ ?_ ?_))))))))
  ·exact ⟨rfl,trivial⟩
  ·exact ⟨Nat.zero_le _,H,fun k x y h=>absurd h (Nat.not_lt_zero _)⟩
  ·clear H
   rintro i j w ⟨hi,H,hb⟩
   refine Aq (Ag (Ad rfl rfl (Ah rfl BU rfl (AA rfl CI rfl H at1 rfl (AU rfl Ce rfl (AN rfl rfl rfl (Ab (Aa (Ax _ rfl ?_ ?_)))))))))
   ·intro h2
    replace h2:=AF h2
    obtain ⟨x,hx⟩:=AC (l:=xs) (i:=i) (by omega)
    obtain ⟨y,hy⟩:=AC (l:=ys) (i:=i) (by omega)
    refine Av (Aa (Aq (Au (DS (fun x=>x=_) B3 (by kernel_rfl) rfl ?_))))
    refine A6 rfl BU rfl (BZ rfl CI rfl (by rintro _ rfl; exact H.drew) at1 rfl ?_)
    refine AM rfl rfl (BN R rfl Ce BC rfl rfl (by omega) (by omega) (by rfl) ?_)
    refine Jp _ rfl DX BC rfl rfl (by rintro _ rfl; exact ((R.ext0 H.drew.ext).row hx rfl)) ?_
    refine A6 rfl BU rfl (BZ rfl CI rfl (by rintro _ rfl; exact H.drew) at0 rfl ?_)
    refine AM rfl rfl (BN Ry rfl Ce BC rfl rfl (by omega) (by omega) (by rfl) ?_)
    refine Jp _ rfl DX BC rfl rfl (by rintro _ rfl; exact ((Ry.ext0 H.drew.ext).row hy rfl)) ?_
    refine q_neS (ks:=[true,true,true,true]) (xs:=Bv x) (ys:=Bv y) (decide (x=y)) rfl (by kernel_rfl) rfl rfl ⟨rfl,rfl,rfl,rfl,trivial⟩ (Kj x y) ?_
    refine BQ ?_
    rintro _ rfl
    replace H:=H.drew
    refine Ax _ rfl ?_ ?_
    ·intro h3
     refine Ag (Ai rfl rfl (Ab (Aa (A9 (A4 (Al (Al (A4 (Al (AB (v:=(.bool _)) rfl rfl rfl ?_))))))))))
     have hne:¬ x=y:=by simpa using h3
     exact ⟨congrArg Value.bool (decide_eq_false fun h=>by subst h; rw [hx] at hy; injection hy with hy; exact hne hy).symm,H.ext⟩
    ·intro h3
     refine Av (A5 (Aa (Aw (Ad rfl rfl (Ap rfl rfl rfl (by omega) (by omega) ?_)))))
     refine Af rfl rfl (Ab (Aa ?_))
     have heq:x=y:=by simpa using h3
     refine ⟨i+1,rfl,⟨rfl,trivial⟩,⟨by omega,H,fun k x' y' hk hx' hy'=>?_⟩,by omega⟩
     rcases Nat.lt_or_ge k i with h7 | h7
     ·exact hb k x' y' h7 hx' hy'
     ·obtain rfl:k=i:=by omega
      rw [hx] at hx'; rw [hy] at hy'
      cases hx'; cases hy'
      exact heq
   ·intro h2
    replace h2:=AG h2
    refine Bd (Aj (Aj (AD (Aa (Ag (Ai rfl rfl (Ab (Aa (A9 (AB (v:=(.bool _)) rfl rfl rfl ?_))))))))))
    have hin:i=xs.length:=by omega
    rw [hin] at hb
    exact ⟨congrArg Value.bool (decide_eq_true (Zy hle hb)).symm,H.ext⟩
/-- Dues of the reference, to be read. -/
def RdAt (w:World) (br:Nat) (ds:List Du):Prop:=∃ a c nx,w.heap[br]? = some (Bl 48 [.slice a ds.length c,.int .u64 nx])∧Rd w a 7 Ee ds
theorem RdAt.ext0 {w w':World} {br:Nat} {ds:List Du} (h:RdAt w br ds) (he:Ext [] w w'):RdAt w' br ds:=by
 obtain ⟨a,c,nx,h1,h2⟩:=h
 exact ⟨a,c,nx,he.to h1 (by simp),h2.ext0 he⟩
end Go.Proofs.YtapphbmlkdhnmaaGreat

/- A round, applied as the reference has it. -/
namespace Go.Proofs.YtapphbmlkdhnmaaGreat
open Go.GV
attribute [local irreducible] A2 W Wq Wt

abbrev RDU (ad:Option Addr) (m cd:Nat) (nx:Int):Obj:=Bl 48 [.slice ad m cd,.int .u64 nx]
abbrev RX (ba:Nat) (a:Option Addr) (n c:Nat) (full:List Value) (br:Nat) (ad:Option Addr) (m cd:Nat) (nx:Int) (fd:List Value):List (Nat × Obj):=(ba,Bl 52 [.slice a n c])::(br,RDU ad m cd nx)::(ent ad 62 fd++ent a 64 full)
structure RP7 where
 i:Nat
 ad:Option Addr
 cd:Nat
 fd:List Value
end Go.Proofs.YtapphbmlkdhnmaaGreat

/- Accounts and dues, of the program's and of the reference: what the laws begin with. -/
namespace Go.Proofs.YtapphbmlkdhnmaaGreat
open Go.GV
attribute [local irreducible] A2 W Wq Wt

/-- Accounts and dues, twice. -/
structure Four where
 bx:Nat
 a:Option Addr
 c:Nat
 full:List Value
 bd:Nat
 b:Nat
 o:Obj
 ba:Nat
 ra:Option Addr
 rc:Nat
 rfull:List Value
 br:Nat
 ad:Option Addr
 cd:Nat
 fd:List Value
def Four.L (z:Four) (acs:List Ac) (ds:List Du) (nx:Int):List (Nat × Obj):=LX z.bx z.a acs.length z.c z.full z.bd z.b nx z.o++RX z.ba z.ra acs.length z.rc z.rfull z.br z.ad ds.length z.cd nx z.fd
structure Four.Ok (z:Four) (acs:List Ac) (ds:List Du):Prop where
 O:OS z.a acs.length z.c 2 z.full (acs.flatMap encA)
 M:J6 .u64 (dm ds) z.o
 RO:OS z.ra acs.length z.rc 2 z.rfull (acs.flatMap encA)
 RD:OS z.ad ds.length z.cd 7 z.fd (ds.flatMap Ee)
def Aag (acs:List Ac) (ds:List Du) (nx:Int):Bool:=decide (aofC acs=0) && decide (ofC ds nx=0)
def BothRes (w:World) (acs:List Ac) (ds:List Du) (nx:Int) (v:Value) (w':World):Prop :=
 (Aag acs ds nx=false∧v = .tuple #[.pointer none,.pointer none,.pointer none,.pointer none,.bool false]∧Ext [] w w') ∨
  (Aag acs ds nx=true∧∃ z:Four,v = .tuple #[ptr z.bx,ptr z.bd,ptr z.ba,ptr z.br,.bool true]∧z.Ok acs ds∧Ctx w [] w' (z.L acs ds nx))
end Go.Proofs.YtapphbmlkdhnmaaGreat

/- Plans and rounds among what else one holds; the chapter's example. -/
namespace Go.Proofs.YtapphbmlkdhnmaaGreat
open Go.GV
attribute [local irreducible] A2 W Wq Wt

theorem SR {α:Type} (B L R:List α):(B++(L++R)).Perm (L++(B++R)):=by
 classical exact List.perm_iff_count.2 fun x=>by simp only [List.count_append]; omega
theorem Ctx.mid {w0 w w':World} {S:List Nat} {B L L' R:List (Nat × Obj)} (H:Ctx w0 S w (B++(L++R))) (H':Ctx w (L.map (·.1)) w' L'):Ctx w0 S w' (B++(L'++R)) :=
 (Ctx.back (H.perm (SR B L R)) H').perm (SR B L' R).symm
theorem Ctx.in' {w0 w:World} {S:List Nat} {B L R:List (Nat × Obj)} (H:Ctx w0 S w (B++(L++R))):Ctx w (L.map (·.1)) w L:=Ctx.lend (H.perm (SR B L R))
theorem LX.du {bx:Nat} {a:Option Addr} {n c:Nat} {full:List Value} {bd b:Nat} {nx:Int} {o:Obj} {ds:List Du} {w0 w:World} {S:List Nat} (H:Ctx w0 S w (LX bx a n c full bd b nx o)) (hM:J6 .u64 (dm ds) o):DuAt w bd ds :=
 ⟨b,nx,o,H.get at1,H.get at2,hM⟩
theorem RX.du {ba:Nat} {a:Option Addr} {n c:Nat} {full:List Value} {br:Nat} {ad:Option Addr} {cd:Nat} {nx:Int} {fd:List Value} {ds:List Du} {w0 w:World} {S:List Nat} (H:Ctx w0 S w (RX ba a n c full br ad ds.length cd nx fd)) (O:OS ad ds.length cd 7 fd (ds.flatMap Ee)):RdAt w br ds :=
 ⟨ad,cd,nx,H.get at1,OS.rd O (fun x hx=>H.blk x (List.mem_cons_of_mem _ (List.mem_cons_of_mem _ (List.mem_append_left _ hx)))) (fun _ _=>rfl) (by decide)⟩
theorem ROff.old {w0 w:World} {S:List Nat} {L:List (Nat × Obj)} {q:RSl} {r:Rnd} (H:Ctx w0 S w L) (h:ROff q r (fun x=>x<w.heap.size)):ROff q r (·∈L.map (·.1)) :=
 h.mono fun x hx=>by
  obtain ⟨y,hy,rfl⟩:=List.mem_map.1 hx
  exact Bt (H.blk y hy)
/-- Limits of a round that is held. -/
structure RBnd (r:Rnd):Prop where
 N:I64 r.N
 es:r.es.length≤1000000
 ids:r.ids.length≤1000000
 fl:r.fl.length≤1000000
 pot:r.pot.length≤1000000
/-! ### The example -/
abbrev xA0:List Ac:=[⟨5,0⟩,⟨0,0⟩]
abbrev xA1:List Ac:=[⟨0,0⟩,⟨5,0⟩]
abbrev xD0:List Du:=[⟨1,0,1,9,1,1,false⟩]
abbrev xD1:List Du:=[⟨1,0,1,4,1,1,false⟩]
abbrev xE0:List Ed:=[⟨0,1,9,-1⟩,⟨2,0,5,0⟩,⟨0,2,4503599627370496,0⟩,⟨2,1,0,0⟩,⟨1,2,4503599627370496,0⟩]
end Go.Proofs.YtapphbmlkdhnmaaGreat

/- Numbers of a slice, one by one, gathered and sorted. -/
namespace Go.Proofs.YtapphbmlkdhnmaaGreat
open Go.GV
attribute [local irreducible] A2 W Wq Wt

/-- A slice in a variable of its own. -/
structure ValK (b:Nat) (a:Option Addr) (n c:Nat) (xs:List Int) (w:World):Prop where
 h:w.heap[b]? = some (Bl 25 [.slice a n c])
 R:Rd w a 1 U1 xs
theorem ValK.ext {b:Nat} {a:Option Addr} {n c:Nat} {xs:List Int} {w w':World} {S:List Nat} (K:ValK b a n c xs w) (hx:Ext S w w') (h1:b∉S) (h2:xs≠[]→(adr a).block∉S):ValK b a n c xs w':=⟨hx.to K.h h1,K.R.ext' hx h2⟩
def Ub (bk:Nat):Value := .func (.func 185) #[] #[ptr bk]
set_option maxRecDepth 20000 in
theorem XG {b:Nat} {a:Option Addr} {n c:Nat} {xs:List Int} (hn:xs.length=n) (hn2:n≤1000000):Mk Tryz.prog 185 #[ptr b] [] (fun _ w=>ValK b a n c xs w) (xs.map fun x=>[.int .u64 x]):=by
 subst hn
 intro l w J E hJ0 hJs hEs hK hY
 obtain ⟨M0,hJ0⟩:=hJ0
 obtain ⟨w0,rfl⟩:∃ w0,w0=w:=⟨_,rfl⟩
 refine A1 (fn:=Tryz.f185) Tryz.func185 rfl [.func (.yield l) #[] #[],.pointer (some ⟨b,0,none⟩)] rfl (by kernel_rfl) ?_
 have K0:=(hK _ _ _ hJ0).2
 have H:=Ctx.start w0 []
 refine Ag (AX rfl Fm rfl ((by rw [Ay K0.h]; rfl)) ?_)
 refine AU rfl Be rfl (Ad rfl rfl (Ab (Aa (Au (Bi 65424 (α:=Nat) (fun i=>[(7,.int .i64 (i:Int))]) (fun i w'=>i≤xs.length∧∃ M,J i M w') (fun i=>xs.length - i) 0 rfl ?_ ?_ ?_)))))
 ·exact ⟨rfl,trivial⟩
 ·exact ⟨Nat.zero_le _,M0,hJ0⟩
 ·clear H
  rintro i j w ⟨hi,M,hJ⟩
  have R:=(hK _ _ _ hJ).2.R
  obtain ⟨w1,rfl⟩:∃ w1,w1=w:=⟨_,rfl⟩
  have H:=Ctx.start w1 []
  refine Ag (AN rfl rfl rfl (Ab (Aa (Aq (Ax _ rfl ?_ ?_)))))
  ·intro h1
   replace h1:=AF h1
   obtain ⟨x,hx⟩:=AC (l:=xs) (i:=i) (by omega)
   refine Av (Aa (Aq (Au (Ag (AZ R rfl Be AY rfl rfl (by omega) (by omega) (by rfl) ?_)))))
   refine AX rfl BK rfl ((R.fld hx rfl (j:=0) rfl)) ?_
   refine Af rfl rfl (Ab (Aa (Ag (Cd rfl (.func _ _ _) rfl ?_))))
   refine Ad rfl rfl ?_
   have hY1:=hY i [.int .u64 x] M _ (by rw [List.getElem?_map,hx]; rfl) (hJs _ _ _ _ hJ H.ext)
   refine FD (vs:=[.int .u64 x]) rfl rfl hY1 rfl ?_
   rintro u w hu
   clear H
   obtain ⟨bb,rfl,hu1,hu0⟩:∃ bb,u = .bool bb∧(bb=true→∃ M,J (i+1) M w)∧(bb=false→E w):=hu.elim (fun h=>⟨true,h.1,fun _=>let ⟨M',h1,_⟩:=h.2; ⟨M',h1⟩,fun h=>by cases h⟩) (fun h=>⟨false,h.1,(fun h=>by cases h),fun _=>h.2⟩)
   refine Bu rfl rfl (Ab (Aa (Ax _ rfl ?_ ?_)))
   ·intro h2
    replace h2:=Bp h2
    refine A9 (A4 (Al (Al (A4 (EM rfl rfl ?_)))))
    exact .inr (hu0 (by simpa using h2))
   ·intro h2
    replace h2:=Bq h2
    refine Av (A5 (Aa (Aw (Ap rfl rfl rfl (by omega) (by omega) ?_))))
    refine Ad rfl rfl (Ab (Aa ?_))
    exact ⟨i+1,rfl,⟨rfl,trivial⟩,⟨by omega,hu1 (by simpa using h2)⟩,by omega⟩
  ·intro h1
   replace h1:=AG h1
   obtain rfl:i=xs.length:=by omega
   refine Bd (Aj (Aj (AD (CJ rfl rfl ?_))))
   exact .inl ⟨M,by rw [List.length_map]; exact hJ⟩
theorem Vq (a:Option Addr) (n c:Nat) (w:World):Ret Tryz.prog 153 #[.slice a n c] w fun v w'=>∃ bk,v=Ub bk∧w'.heap[bk]? = some (Bl 25 [.slice a n c])∧w.heap.size≤bk∧Ext [] w w':=by
 obtain ⟨w0,rfl⟩:∃ w0,w0=w:=⟨_,rfl⟩
 have H:=Ctx.start w0 []
 refine A1 (fn:=Tryz.f153) Tryz.func153 rfl [.slice a n c] rfl (by kernel_rfl) ?_
 refine Ag (Bs rfl _ (.slice _ _ _) rfl rfl H ?_)
 rintro b1 w - H
 refine BW rfl .nilFunc rfl ?_
 refine Ab (Aa (Ag (C1 rfl [.pointer _] rfl (BW rfl (.func _ _ _) rfl ?_))))
 refine Ab (Aa (A9 (AB (v:=(.func _ _ _)) rfl rfl rfl ?_)))
 exact ⟨_,rfl,H.get at0,(H.own _ (List.mem_cons_self ..)).elim (fun h=>by cases h) id,H.ext⟩
/-- What the rounds leave. -/
def apvJ (w0:World) (bk:Nat) (a0:Option Addr) (n0 c0:Nat) (xs:List Int) (bb k:Nat) (i:Nat) (M:Mt) (w:World):Prop :=
 ∃ a c full,(M=fun y=>y∈((bb,Bl 25 [.slice a i c])::ent a 24 full).map (·.1))∧Ctx w0 [] w ((bb,Bl 25 [.slice a i c])::ent a 24 full) ∧
  OS a i c 1 full ((xs.take i).map Fb)∧(∀ x∈full,∃ z,x=Fb z)∧ValK bk a0 n0 c0 xs w∧∀ y∈((bb,Bl 25 [.slice a i c])::ent a 24 full).map (·.1),y≠k∧y≠k+1
set_option maxRecDepth 20000 in
set_option maxHeartbeats 2000000 in
theorem SU {bk:Nat} {a0:Option Addr} {n0 c0:Nat} {xs:List Int} (hn:xs.length=n0) (hm:n0≤1000000) (w:World) (K:ValK bk a0 n0 c0 xs w) :
  Ret Tryz.prog 173 #[.slice none 0 0,Ub bk] w fun v w'=>FreshU w w' v xs:=by
 obtain ⟨w0,rfl⟩:∃ w0,w0=w:=⟨_,rfl⟩
 have H:=Ctx.start w0 []
 have lk:=Bt K.h
 have lR:=K.R.lt' (fun _ _=>rfl) (by decide)
 refine Gc (fn:=Tryz.f173) Tryz.func173 rfl [.slice none 0 0,.func (.func 185) #[] #[.pointer (some ⟨bk,0,none⟩)]] rfl (by kernel_rfl) ?_
 refine Ag (Bs rfl _ (.slice _ _ _) rfl rfl H ?_)
 rintro b2 w - H
 refine AJ rfl rfl (Ab (Aa (Aq (Ag (Cd rfl (.func _ _ _) rfl ?_)))))
 refine Ab (Aa (Au ?_))
 obtain ⟨ws,rfl⟩:∃ z,z=w:=⟨_,rfl⟩
 have hb2:=(H.own _ (List.mem_cons_self ..)).elim (fun h=>by cases h) id
 have l2:=H.lt at0
 have hsz:=H.size
 dsimp only at hb2
 have K2:ValK bk a0 n0 c0 xs ws:=K.ext H.ext (by simp) (by simp)
 refine JW (gf:=185) rfl Ab6 (XG (b:=bk) (a:=a0) (c:=c0) hn hm) (by kernel_rfl) (by kernel_rfl) (fun v hv=>by obtain ⟨p,-,rfl⟩:=List.mem_map.1 hv; rfl)
  (apvJ w0 bk a0 n0 c0 xs b2 ws.heap.size) (fun _=>False) (by simp)
  (fun w2 hx2 _=>⟨_,none,0,[],rfl,H.call hx2,OS.nil,by simp,K2.ext hx2 (by simp) (by simp),by simp [ent]; omega⟩)
  (fun i M w' w'' hJ hx=>?_) (fun _ _ h _=>h) (fun i M w' hJ=>?_) ?_ ?_ (fun _ h _=>h.elim)
 ·obtain ⟨a,c,full,hMM,HJ,O,Z,KJ,hne⟩:=hJ
  refine ⟨a,c,full,hMM,HJ.step hx (fun y hy hy2=>?_) (fun x hx => .inr ?_),O,Z,KJ.ext hx (fun h=>?_) (fun hne' h=>?_),hne⟩
  ·have:=hne _ (List.mem_map_of_mem (f:=(·.1)) hy)
   simp only [List.mem_cons,List.not_mem_nil,or_false] at hy2
   omega
  ·simp only [List.mem_cons,List.not_mem_nil,or_false] at hx
   omega
  ·simp only [List.mem_cons,List.not_mem_nil,or_false] at h
   omega
  ·have:=lR hne'
   simp only [List.mem_cons,List.not_mem_nil,or_false] at h
   omega
 ·obtain ⟨a,c,full,hMM,HJ,O,Z,KJ,hne⟩:=hJ
  refine ⟨fun x hx=>?_,KJ⟩
  rw [hMM] at hx
  obtain ⟨y,hy,rfl⟩:=List.mem_map.1 hx
  exact ⟨Bt (HJ.blk y hy),hne _ hx⟩
 ·rintro i v M w hxv ⟨a,c,full,rfl,HJ,O,Z,KJ,hne⟩ hsz2
  rw [List.getElem?_map] at hxv
  obtain ⟨x,hxi,rfl⟩:=Option.map_eq_some_iff.1 hxv
  have hil:=CB hxi
  obtain ⟨w1,rfl⟩:∃ z,z=w:=⟨_,rfl⟩
  refine Aw (Af rfl rfl (Ab ?_))
  refine ⟨Ext.refl _ _,fun wB hxB=>?_⟩
  have HB:=HJ.step hxB (fun y hy h=>(hne _ (List.mem_map_of_mem (f:=(·.1)) hy)).2 (List.mem_singleton.1 h)) (fun z hz => .inr (by rw [List.mem_singleton.1 hz]; omega))
  have KB:ValK bk a0 n0 c0 xs wB:=KJ.ext hxB (by rw [List.mem_singleton]; omega) (fun hne'=>by have:=lR hne'; rw [List.mem_singleton]; omega)
  have hown:∀ y∈((b2,Bl 25 [.slice a i c])::ent a 24 full).map (·.1),w0.heap.size≤y:=fun y hy=>by
   obtain ⟨z,hz,rfl⟩:=List.mem_map.1 hy
   exact (HJ.own z hz).elim (fun h=>by cases h) id
  have hsB:=hxB.size
  obtain ⟨w2,rfl⟩:∃ z,z=wB:=⟨_,rfl⟩
  rw [← List.append_nil ((b2,Bl 25 [.slice a i c])::ent a 24 full)] at HB
  have H:=Ctx.lend (L1:=(b2,Bl 25 [.slice a i c])::ent a 24 full) (L2:=[]) HB
  obtain ⟨SS,hSS⟩:∃ SS,SS=((b2,Bl 25 [.slice a i c])::ent a 24 full).map (·.1):=⟨_,rfl⟩
  rw [← hSS] at H
  refine Au (Aw (AA rfl Fm rfl H at0 rfl (Ad rfl rfl (DC _ (.int _ _) rfl Be AY M4 rfl (by decide) (by decide) rfl rfl rfl H ?_))))
  rintro b10 w - H
  refine Qg (L:=[_]) rfl Be Be AY Wk M4 rfl (by decide) rfl rfl H O rfl (by simp [Bz]) (by omega) ?_
  rintro a' c' full' w H O Z2
  refine Cj (.slice _ _ _) rfl Aaa rfl rfl rfl H at0 (by (simp; done)) ?_
  rintro w H
  refine Ab (A5 ?_)
  rw [hSS] at H
  have HE:=H.ext
  refine ⟨_,⟨a',c',full',rfl,by rw [← List.append_nil (_::ent a' _ full')]; exact Ctx.back HB H,by rw [C5 hxi,List.map_append]; exact O,fun x hx=>?_,KB.ext HE (fun h=>by have:=hown _ h; omega) (fun hne' h=>by have:=hown _ h; have:=lR hne'; omega),fun y hy=>?_⟩,fun y hy=>?_,_,HE,fun y hy => .inl hy⟩
  ·rcases Z2 x hx with h | h | h
   ·exact Z x h
   ·exact ⟨_,List.mem_singleton.1 h⟩
   ·exact ⟨_,List.mem_singleton.1 h⟩
  ·obtain ⟨z,hz,rfl⟩:=List.mem_map.1 hy
   rcases H.own z hz with h | h
   ·exact hne _ h
   ·omega
  ·obtain ⟨z,hz,rfl⟩:=List.mem_map.1 hy
   exact (H.own z hz).imp id fun h=>by omega
 ·rintro M w ⟨a,c,full,rfl,HJ,O,Z,KJ,hne⟩ hD
  rw [List.length_map] at HJ O hne
  rw [List.take_length] at O
  have H:=HJ
  refine A5 (Aa (Ag (AA rfl Fm rfl H at0 rfl (AJ rfl rfl (Ab (Aa (A9 (JU (v:=(.slice _ _ _)) rfl rfl (Gd hD rfl fun wF hxF=>?_)))))))))
  have HF:=H.step hxF (fun y hy h=>(hne _ (List.mem_map_of_mem (f:=(·.1)) hy)).1 (List.mem_singleton.1 h)) (fun z hz => .inr (by rw [List.mem_singleton.1 hz]; omega))
  refine ⟨⟨a,xs.length,c,full,rfl,O,Z,fun x hx=>⟨HF.blk x (List.mem_cons_of_mem _ hx),(HF.own x (List.mem_cons_of_mem _ hx)).elim (fun h=>by cases h) id⟩⟩,HF.ext⟩
theorem QO {bk:Nat} {a0:Option Addr} {n0 c0:Nat} {xs:List Int} (hn:xs.length=n0) (hm:n0≤1000000) (w:World) (K:ValK bk a0 n0 c0 xs w) :
  Ret Tryz.prog 121 #[Ub bk] w fun v w'=>FreshU w w' v xs:=by
 obtain ⟨w0,rfl⟩:∃ w0,w0=w:=⟨_,rfl⟩
 refine A1 (fn:=Tryz.f121) Tryz.func121 rfl [.func (.func 185) #[] #[.pointer (some ⟨bk,0,none⟩)]] rfl (by kernel_rfl) ?_
 refine Ag (AJ rfl rfl (Ab (Aa (Ag (Cd rfl (.func _ _ _) rfl ?_)))))
 refine Ao rfl Ab3 (SU hn hm _ K) rfl ?_
 rintro v w F
 obtain ⟨a,n,c,full,rfl,O,Z,hb⟩:=F.ex
 refine AJ rfl rfl (Ab (Aa (A9 (AB (v:=(.slice _ _ _)) rfl rfl rfl ?_))))
 exact F
theorem SV {bk:Nat} {a0:Option Addr} {n0 c0:Nat} {xs:List Int} (hn:xs.length=n0) (hm:n0≤1000000) (w:World) (K:ValK bk a0 n0 c0 xs w) :
  Ret Tryz.prog 61 #[Ub bk] w fun v w'=>∃ l:List Int,l.Perm xs∧l.Pairwise (·≤·)∧FreshU w w' v l:=by
 obtain ⟨w0,rfl⟩:∃ w0,w0=w:=⟨_,rfl⟩
 refine A1 (fn:=Tryz.f61) Tryz.func61 rfl [.func (.func 185) #[] #[.pointer (some ⟨bk,0,none⟩)]] rfl (by kernel_rfl) ?_
 refine Ag (AJ rfl rfl (Ab (Aa (Ag (Cd rfl (.func _ _ _) rfl ?_)))))
 refine Ao rfl Aba (QO hn hm _ K) rfl ?_
 rintro v w F
 obtain ⟨a,n,c,full,rfl,O,Z,hb⟩:=F.ex
 have hx5:=F.ext
 have hvn:=O.llen
 rw [List.length_map] at hvn
 refine AJ rfl rfl (Ab (Aa (Ag (An rfl rfl (Ao rfl Abb (sortF _ O Z (fun x hx=>(hb x hx).1) (by omega)) rfl ?_)))))
 rintro v w ⟨rfl,full',l',hP,hS,O',Z',hb',hx7⟩
 refine Ab (Aa (Ag (An rfl rfl (AJ rfl rfl (Ab (Aa (A9 (AB (v:=(.slice _ _ _)) rfl rfl rfl ?_))))))))
 refine ⟨l',hP,hS,⟨_,_,_,_,rfl,O',Z',fun x hx=>⟨hb' x hx,?_⟩⟩,hx5.then hx7 fun x hx=>?_⟩
 ·cases a with
  | none=>simp [ent] at hx
  | some p =>
   simp only [ent,List.mem_singleton] at hx
   subst hx
   exact (hb (p.block,Bl 24 full) (by simp [ent])).2
 ·obtain ⟨y,hy,rfl⟩:=List.mem_map.1 hx
  exact .inr (hb y hy).2
end Go.Proofs.YtapphbmlkdhnmaaGreat

/- Whether no number comes twice. -/
namespace Go.Proofs.YtapphbmlkdhnmaaGreat
open Go.GV
attribute [local irreducible] A2 W Wq Wt

theorem Vr {l:List Int} (hs:l.Pairwise (·≤·)):l.Nodup↔∀ (j:Nat) (x y:Int),l[j]? = some x→l[j+1]? = some y→x≠y:=by
 rw [List.Nodup,List.pairwise_iff_getElem]
 rw [List.pairwise_iff_getElem] at hs
 constructor
 ·intro h j x y hx hy
  obtain ⟨h1,rfl⟩:=List.getElem?_eq_some_iff.1 hx
  obtain ⟨h2,rfl⟩:=List.getElem?_eq_some_iff.1 hy
  exact h j (j+1) h1 h2 (by omega)
 ·intro h i j hi hj hij
  obtain ⟨k,rfl⟩:∃ k,j=k+1:=⟨j - 1,by omega⟩
  have h1:=h k _ _ (List.getElem?_eq_getElem (by omega)) (List.getElem?_eq_getElem hj)
  have h2:=hs k (k+1) (by omega) hj (by omega)
  rcases Nat.lt_or_ge i k with h3 | h3
  ·have:=hs i k hi (by omega) h3
   omega
  ·obtain rfl:i=k:=by omega
   exact h1
structure CmZ where
 k:Nat
 k2:Nat
 g:Nat→Int
set_option maxRecDepth 20000 in
set_option maxHeartbeats 2000000 in
theorem QP {b n c:Nat} {f:Nat→Int} (w:World) (hb:w.heap[b]? = some (Bl 24 (C4 f c))) (hn:n≤c) (hm:n≤1000000) :
  Ret Tryz.prog 154 #[.slice (some ⟨b,0,none⟩) n c] w fun v w'=>∃ m,v = .slice (some ⟨b,0,none⟩) m c∧(m=n↔∀ j,j+1<n→f j≠f (j+1))∧Ext [b] w w':=by
 obtain ⟨w0,rfl⟩:∃ w0,w0=w:=⟨_,rfl⟩
 have H:=Ctx.start1 hb
 refine A1 (fn:=Tryz.f154) Tryz.func154 rfl [.slice (some ⟨b,0,none⟩) n c] rfl (by kernel_rfl) ?_
 refine Ag (AJ rfl rfl (Ab (Aa (Aq (Ag (An rfl rfl (AU rfl Be rfl (AN rfl rfl rfl (Ab (Aa (Ax _ rfl ?_ ?_)))))))))))
 ·intro h1
  replace h1:=AF h1
  refine Ag (An rfl rfl (AJ rfl rfl (Ab (Aa (A9 (Al (AB (v:=(.slice _ _ _)) rfl rfl rfl ?_)))))))
  exact ⟨n,rfl,⟨fun _ j hj=>by omega,fun _=>rfl⟩,H.ext⟩
 ·intro h1
  replace h1:=AG h1
  refine Av (Aa (Aq (Ag (Af rfl rfl (Ab (Aa (Au (Bi 1152921504606846012 (α:=Nat) (fun i=>[(3,.int .i64 (i:Int))]) (fun i w'=>(1≤i∧i≤n)∧(∀ j,j+1<i→f j≠f (j+1))∧Ctx w0 [b] w' [(b,Bl 24 (C4 f c))]) (fun i=>n - i) 1 rfl ?_ ?_ ?_))))))))
  ·exact ⟨rfl,trivial⟩
  ·exact ⟨⟨Nat.le_refl _,by omega⟩,fun j hj=>by omega,H⟩
  ·clear H
   rintro i jj w ⟨⟨hi1,hi⟩,hd,H⟩
   refine Aq (Ag (Ad rfl rfl (An rfl rfl (AU rfl Be rfl (AN rfl rfl rfl (Ab (Aa (Ax _ rfl ?_ ?_))))))))
   ·intro h2
    replace h2:=AF h2
    refine Av (Aa (Aq (Au (DS (fun x=>x=_) B3 (by kernel_rfl) rfl ?_))))
    refine BT rfl rfl (AM rfl rfl (AL rfl Be AY rfl rfl (by omega) (by omega) ?_))
    refine N8 i _ rfl BK rfl (by rintro _ rfl; exact H.drew) at0 (by simp) (by omega) rfl ?_
    refine BT rfl rfl (AM rfl rfl (CW rfl rfl rfl (by omega) (by omega) ?_))
    refine AL rfl Be AY rfl rfl (by omega) (by omega) ?_
    refine N8 (i - 1) _ rfl BK rfl (by rintro _ rfl; exact H.drew) at0 (by omega) (by omega) rfl ?_
    refine Tp rfl rfl rfl (BQ ?_)
    rintro _ rfl
    replace H:=H.drew
    refine Ax _ rfl ?_ ?_
    ·intro h3
     replace h3:=AF h3
     have hc1:¬ c=(i:Int).toNat:=by omega
     have hcut:J5 (some ⟨b,0,none⟩) c (i:Int).toNat 1=some ⟨b,i,none⟩:=by
      unfold J5
      rw [if_neg hc1,Int.toNat_natCast,Nat.mul_one]
      show some (Addr.add ⟨b,0,none⟩ i)=_
      rw [Cx,Nat.zero_add]
     refine Ag (An rfl rfl (Ad rfl rfl (EU rfl Be AY rfl rfl (by omega) (by omega) ?_)))
     rw [hcut,Int.toNat_natCast]
     refine AJ rfl rfl (Ab (Aa (Aq (Ag (Af rfl rfl (Ab (Aa (Au (Bi 18014397972611112 (α:=CmZ) (fun z=>[(3,.int .i64 (z.k:Int)),(5,.int .i64 (z.k2:Int))]) (fun z w'=>(1≤z.k2∧i+z.k2≤n)∧(i≤z.k∧z.k+1≤i+z.k2)∧(∀ q,i+z.k2≤q+1→z.g q=f q)∧Ctx w0 [b] w' [(b,Bl 24 (C4 z.g c))]) (fun z=>n - z.k2) ⟨i,1,f⟩ rfl ?_ ?_ ?_)))))))))
     ·exact ⟨rfl,rfl,trivial⟩
     ·exact ⟨⟨Nat.le_refl _,by dsimp only; omega⟩,⟨Nat.le_refl _,Nat.le_refl _⟩,fun _ _=>rfl,H⟩
     ·clear H
      rintro ⟨k,k2,g⟩ jj2 w ⟨⟨hk1,hk2⟩,⟨hk3,hk4⟩,hg,H⟩; dsimp only at hk1 hk2 hk3 hk4 hg H; dsimp only
      refine Aq (Ag (Ad rfl rfl (An rfl rfl (AU rfl Be rfl (AN rfl rfl rfl (Ab (Aa (Ax _ rfl ?_ ?_))))))))
      ·intro h4
       replace h4:=AF h4
       refine Av (Aa (Aq (Au (DS (fun x=>x=_) B3 (by kernel_rfl) rfl ?_))))
       refine BT rfl rfl (AM rfl rfl (AL rfl Be AY rfl rfl (by omega) (by omega) ?_))
       refine N8 (i+k2) _ rfl BK rfl (by rintro _ rfl; exact H.drew) at0 (by omega) (by omega) rfl ?_
       refine BT rfl rfl (AM rfl rfl (CW rfl rfl rfl (by omega) (by omega) ?_))
       refine AL rfl Be AY rfl rfl (by omega) (by omega) ?_
       refine N8 (i+k2 - 1) _ rfl BK rfl (by rintro _ rfl; exact H.drew) at0 (by omega) (by omega) rfl ?_
       refine N6 rfl rfl rfl (BQ ?_)
       rintro _ rfl
       replace H:=H.drew
       refine Ax _ rfl ?_ ?_
       ·intro h5
        replace h5:=CO h5
        refine Ag (An rfl rfl (Ad rfl rfl (An rfl rfl (Ad rfl rfl (Bb rfl Be AY rfl rfl (by omega) (by omega) ?_)))))
        refine RM (i+k2) _ rfl BK rfl H at0 (by omega) (by omega) rfl ?_
        refine Bb rfl Be AY rfl rfl (by omega) (by omega) ?_
        refine BP k (fun q => .int .u64 (upd g k (g (i+k2)) q)) (.int _ _) rfl AY rfl rfl rfl H at0 (by omega) (by omega) (by rw [Dd]) (fun q _ hq=>by rw [DZ hq]) ?_
        rintro w H
        refine Ab (Aa (Aw (Ad rfl rfl (Ap rfl rfl rfl (by omega) (by omega) ?_))))
        refine Af rfl rfl (Ab (A5 (Aa (Aw (Ad rfl rfl (Ap rfl rfl rfl (by omega) (by omega) ?_))))))
        refine Af rfl rfl (Ab (Aa ?_))
        exact ⟨⟨k+1,k2+1,upd g k (g (i+k2))⟩,rfl,⟨rfl,rfl,trivial⟩,⟨⟨by dsimp only; omega,by dsimp only; omega⟩,⟨by dsimp only; omega,by dsimp only; omega⟩,fun q hq=>by dsimp only at hq ⊢; rw [DZ (by omega)]; exact hg q (by omega),H⟩,by dsimp only; omega⟩
       ·intro h5
        replace h5:=CP h5
        refine Av (A5 (Aa (Aw (Ad rfl rfl (Ap rfl rfl rfl (by omega) (by omega) ?_)))))
        refine Af rfl rfl (Ab (Aa ?_))
        exact ⟨⟨k,k2+1,g⟩,rfl,⟨rfl,rfl,trivial⟩,⟨⟨by dsimp only; omega,by dsimp only; omega⟩,⟨by dsimp only; omega,by dsimp only; omega⟩,fun q hq=>by dsimp only at hq ⊢; exact hg q (by omega),H⟩,by dsimp only; omega⟩
      ·intro h4
       replace h4:=AG h4
       have hc2:¬ c=(k:Int).toNat:=by omega
       have hcut2:J5 (some ⟨b,0,none⟩) c (k:Int).toNat 1=some ⟨b,k,none⟩:=by
        unfold J5
        rw [if_neg hc2,Int.toNat_natCast,Nat.mul_one]
        show some (Addr.add ⟨b,0,none⟩ k)=_
        rw [Cx,Nat.zero_add]
       refine Bd (Aj (Aj (AD (Aa (Ag (An rfl rfl (Ad rfl rfl (EU rfl Be AY rfl rfl (by omega) (by omega) ?_))))))))
       rw [hcut2,Int.toNat_natCast]
       refine K5 rfl Be M4 rfl (by simp [Bz]) rfl H at0 (by simp; omega) ?_
       rintro w H
       refine Ab (Aa (Ag (An rfl rfl (Ad rfl rfl (EV rfl Be AY rfl rfl (by omega) (by omega) ?_)))))
       refine AJ rfl rfl (Ab (Aa (A9 (A4 (Al (Al (A4 (Al (AB (v:=(.slice _ _ _)) rfl rfl rfl ?_)))))))))
       refine ⟨k,by rw [Int.toNat_natCast],⟨fun h=>by omega,fun h=>absurd ?_ (h (i - 1) (by omega))⟩,H.ext⟩
       rw [show i - 1+1=i by omega]
       exact h3.symm
    ·intro h3
     replace h3:=AG h3
     refine Av (A5 (Aa (Aw (Ad rfl rfl (Ap rfl rfl rfl (by omega) (by omega) ?_)))))
     refine Af rfl rfl (Ab (Aa ?_))
     refine ⟨i+1,rfl,⟨rfl,trivial⟩,⟨⟨by omega,by omega⟩,fun j hj=>?_,H⟩,by omega⟩
     rcases Nat.lt_or_ge (j+1) i with h7 | h7
     ·exact hd j h7
     ·obtain rfl:i=j+1:=by omega
      exact fun h=>h3 (by rw [show j+1 - 1=j by omega]; exact h.symm)
   ·intro h2
    replace h2:=AG h2
    obtain rfl:i=n:=by omega
    refine Bd (Aj (Aj (AD (Aa (Ag (An rfl rfl (AJ rfl rfl (Ab (Aa (A9 (AB (v:=(.slice _ _ _)) rfl rfl rfl ?_)))))))))))
    exact ⟨i,rfl,⟨fun _=>hd,fun _=>rfl⟩,H.ext⟩
theorem SW {a:Option Addr} {n c:Nat} {full:List Value} {l:List Int} (w:World) (O:OS a n c 1 full (l.map Fb)) (Z:∀ x∈full,∃ z,x=Fb z) (hb:∀ x∈ent a 24 full,w.heap[x.1]? = some x.2) (hs:l.Pairwise (·≤·)) (hm:n≤1000000) :
  Ret Tryz.prog 154 #[.slice a n c] w fun v w'=>∃ m,v = .slice a m c∧(m=n↔l.Nodup)∧Ext ((ent a 24 full).map (·.1)) w w':=by
 cases a with
 | none =>
  obtain rfl:n=0:=by have:=O.none' rfl; have:=O.le; omega
  have hl:l=[]:=by have:=O.llen; rw [List.length_map] at this; exact List.eq_nil_of_length_eq_zero (by omega)
  subst hl
  refine A1 (fn:=Tryz.f154) Tryz.func154 rfl [.slice none 0 c] rfl (by kernel_rfl) ?_
  refine Ag (AJ rfl rfl (Ab (Aa (Aq (Ag (An rfl rfl (AU rfl Be rfl (AN rfl rfl rfl (Ab (Aa (CM rfl ?_)))))))))))
  refine Ag (An rfl rfl (AJ rfl rfl (Ab (Aa (A9 (Al (AB (v:=(.slice _ _ _)) rfl rfl rfl ?_)))))))
  exact ⟨0,rfl,⟨fun _=>List.Pairwise.nil,fun _=>rfl⟩,Ext.refl _ _⟩
 | some p =>
  have hp:=O.zero p rfl
  obtain ⟨q,o,sp⟩:=p
  simp only [Addr.mk.injEq,true_and] at hp
  obtain ⟨rfl,rfl⟩:=hp
  obtain ⟨zs,rfl⟩:=Ps full Z
  have hlen:=O.len
  rw [List.length_map,Nat.mul_one] at hlen
  have hpre:=O.pre
  rw [Nat.mul_one,← List.map_take] at hpre
  have hpre:=KE hpre
  have hzs:tab (fun i=>zs.getD i 0) c=zs:=by rw [← hlen]; exact WT zs
  have hb0:w.heap[q]? = some (Bl 24 (C4 (fun i=>zs.getD i 0) c)):=by
   rw [Ki,hzs]
   exact hb (q,Bl 24 (zs.map Fb)) (List.mem_singleton.2 rfl)
  refine Ret.mono (QP (c:=c) w hb0 O.le hm) ?_
  rintro v w' ⟨m,rfl,hmn,hx⟩
  have hS0:((ent (some ⟨q,0,none⟩) 24 (zs.map Fb)).map (·.1))=[q]:=by simp [ent]
  have hle:=O.le
  have hget:∀ j,j<n→l[j]? = some (zs.getD j 0):=fun j hj=>by
   obtain ⟨z,hz⟩:=AC (l:=zs) (i:=j) (by omega)
   rw [← hpre,List.getElem?_take,if_pos hj,hz,Bn hz]
  have hll:l.length=n:=by rw [← hpre,List.length_take]; omega
  refine ⟨m,rfl,hmn.trans ?_,by rw [hS0]; exact hx⟩
  rw [Vr hs]
  constructor
  ·intro h j x y hx hy
   have h1:=CB hy
   rw [hget j (by omega)] at hx
   rw [hget (j+1) (by omega)] at hy
   cases hx; cases hy
   exact h j (by omega)
  ·intro h j hj
   exact h j _ _ (hget j (by omega)) (hget (j+1) hj)
theorem Z8 (a:Option Addr) (n c:Nat) (xs:List Int) (w:World) (R:Rd w a 1 U1 xs) (hn:xs.length=n) (hm:n≤1000000) :
  Ret Tryz.prog 93 #[.slice a n c] w fun v w'=>v = .bool (decide xs.Nodup)∧Ext [] w w':=by
 subst hn
 obtain ⟨w0,rfl⟩:∃ w0,w0=w:=⟨_,rfl⟩
 have H:=Ctx.start w0 []
 refine A1 (fn:=Tryz.f93) Tryz.func93 rfl [.slice a xs.length c] rfl (by kernel_rfl) ?_
 refine Ag (Ai rfl rfl (Ab (Aa (Ag (An rfl rfl (Ao rfl Abo (Vq a _ c _) rfl ?_))))))
 rintro v w ⟨bk,rfl,hbk,-,hx5⟩
 replace H:=H.call hx5
 refine Ao rfl ca_61 (SV rfl hm _ ⟨hbk,R.ext0 H.ext⟩) rfl ?_
 rintro v w ⟨l,hP,hS,F⟩
 obtain ⟨a6,n6,c6,f6,rfl,O6,Z6,hb6⟩:=F.ex
 have hx06:=H.ext.trans F.ext
 have hl6:=O6.llen
 rw [List.length_map,hP.length_eq] at hl6
 have hs6:=H.size
 refine AJ rfl rfl (Ab (Aa (Ag (An rfl rfl (Ao rfl Abp (SW _ O6 Z6 (fun x hx=>(hb6 x hx).1) hS (by omega)) rfl ?_)))))
 rintro v w ⟨m,rfl,hm8,hx8⟩
 refine AU rfl Be rfl (An rfl rfl (AU rfl Be rfl (BX rfl rfl rfl (Ai rfl rfl (Ab (Aa (A9 (AB (v:=(.bool _)) rfl rfl rfl ?_))))))))
 refine ⟨congrArg Value.bool ?_,hx06.then hx8 fun x hx=>?_⟩
 ·rw [Bool.eq_iff_iff,decide_eq_true_eq,decide_eq_true_eq,← hP.nodup_iff,← hm8]
  omega
 ·obtain ⟨y,hy,rfl⟩:=List.mem_map.1 hx
  exact .inr (by have:=(hb6 y hy).2; omega)
end Go.Proofs.YtapphbmlkdhnmaaGreat

/- Whether a round is right: the walk of the program's. -/
namespace Go.Proofs.YtapphbmlkdhnmaaGreat
open Go.GV
attribute [local irreducible] A2 W Wq Wt

section
variable {P:Program} {r:Option Nat} {ops rest:List Oper} {Q:Exit→Env→World→Prop} {e:Env} {w:World} {C:World→Prop} {K:Env→Prop}
 {dst:Option Tmp} {ty:TypeId} {pos:String} {af:Array Edge} {g:Option (Nat × Bool)} {t t2:TypeId} {x y:Operand}
theorem Aah {ks:List Bool} {xs ys:List Value} (b:Bool) (hg:AK ⟨dst,.binOp .neq t x y t2,ty,pos,af,g⟩ ops e=true) (h:J8 P t ks=true) (hx:ev e x = .agg xs.toArray) (hy:ev e y = .agg ys.toArray) (hL:Mm ks xs ys) (hb:b=true↔xs=ys)
  (hk:Wt P ops C K rest (put e dst (.bool (!b)))):Wt P ops C K (⟨dst,.binOp .neq t x y t2,ty,pos,af,g⟩::rest) e:=EW hg (fun w _=>OO h hx hy hL hb w) hk
/-- A difference that may go beyond. -/
theorem SX {a b:Int} (hg:AK ⟨dst,.binOp .sub t x y t2,ty,pos,af,g⟩ ops e=true) (hx:ev e x = .int .i64 a) (hy:ev e y = .int .i64 b)
  (h:∀ z:Int,(-9223372036854775808≤a - b→a - b≤9223372036854775807→z=a - b)→A2 P r ops Q rest (put e dst (.int .i64 z)) w):A2 P r ops Q (⟨dst,.binOp .sub t x y t2,ty,pos,af,g⟩::rest) e w :=
 Br hg rfl (B9 hx hy (by simp [binOp,Op.intArith])) (h (IntKind.i64.wrap (a - b)) fun h1 h2=>Da (k := .i64) (n:=a - b) h1 h2)
end
theorem HY (r:Rnd) (q:RSl) (w:World) (hN : -9223372036854775808<r.N∧r.N≤9223372036854775807):Ret Tryz.prog 87 #[.agg (AH r q).toArray] w fun v w'=>v = .int .i64 (r.N - 1)∧Ext [] w w':=by
 obtain ⟨w0,rfl⟩:∃ w0,w0=w:=⟨_,rfl⟩
 have H:=Ctx.start w0 []
 refine A1 (fn:=Tryz.f87) Tryz.func87 rfl [.agg (AH r q).toArray] rfl (by kernel_rfl) ?_
 refine Ag (Bs rfl (AH r q) (.agg _) rfl rfl H ?_)
 rintro b1 w - H
 refine Af rfl rfl (Ab (Aa (Ag (Ah rfl DG rfl (Ah rfl Dn rfl (AA rfl BH rfl H at0 rfl (Bf rfl rfl rfl (by omega) (by omega) ?_)))))))
 refine Af rfl rfl (Ab (Aa (A9 (AB (v:=(.int _ _)) rfl rfl rfl ?_))))
 exact ⟨rfl,H.ext⟩
theorem Aai (r:Rnd) (q:RSl) (k room:Int) (w:World) (hN : -9223372036854775808<r.N∧r.N≤9223372036854775807):Ret Tryz.prog 82 #[.agg (AH r q).toArray,.int .i64 k,.int .i64 room] w fun v w'=>v = .agg (Bv ⟨r.N - 1,k,room,0⟩).toArray∧Ext [] w w':=by
 obtain ⟨w0,rfl⟩:∃ w0,w0=w:=⟨_,rfl⟩
 have H:=Ctx.start w0 []
 refine A1 (fn:=Tryz.f82) Tryz.func82 rfl [.agg (AH r q).toArray,.int .i64 k,.int .i64 room] rfl (by kernel_rfl) ?_
 refine Ag (Bs rfl (AH r q) (.agg _) rfl rfl H ?_)
 rintro b3 w - H
 refine Bm rfl DH H ?_
 rintro b6 w - H
 refine Ab (Aa (Ag (Bh rfl CQ C2 rfl H at1 rfl (Ao rfl JZ (HY r q _ hN) rfl ?_))))
 rintro v w ⟨rfl,hx8⟩
 replace H:=H.call hx8
 refine Ad rfl rfl (Ad rfl rfl (CC (Bv ⟨r.N - 1,k,room,0⟩) rfl Mz DH (by kernel_rfl) ?_))
 refine BD rfl BC rfl rfl rfl (by exact Dk _) H at0 rfl ?_
 rintro w H
 refine Ab (Aa (A9 (Tq rfl rfl rfl DX BC H at0 rfl ?_)))
 exact ⟨rfl,H.ext⟩
theorem XH (r:Rnd) (q:RSl) (k:Int) (w:World) (hN : -9223372036854775808<r.N∧r.N≤9223372036854775807):Ret Tryz.prog 83 #[.agg (AH r q).toArray,.int .i64 k] w fun v w'=>v = .agg (Bv ⟨k,r.N - 1,4503599627370496,0⟩).toArray∧Ext [] w w':=by
 obtain ⟨w0,rfl⟩:∃ w0,w0=w:=⟨_,rfl⟩
 have H:=Ctx.start w0 []
 refine A1 (fn:=Tryz.f83) Tryz.func83 rfl [.agg (AH r q).toArray,.int .i64 k] rfl (by kernel_rfl) ?_
 refine Ag (Bs rfl (AH r q) (.agg _) rfl rfl H ?_)
 rintro b2 w - H
 refine Bm rfl DH H ?_
 rintro b4 w - H
 refine Ab (Aa (Ag (Ad rfl rfl (Bh rfl CQ C2 rfl H at1 rfl (Ao rfl JZ (HY r q _ hN) rfl ?_)))))
 rintro v w ⟨rfl,hx7⟩
 replace H:=H.call hx7
 refine CC (Bv ⟨k,r.N - 1,4503599627370496,0⟩) rfl Mz DH (by kernel_rfl) ?_
 refine BD rfl BC rfl rfl rfl (by exact Dk _) H at0 rfl ?_
 rintro w H
 refine Ab (Aa (A9 (Tq rfl rfl rfl DX BC H at0 rfl ?_)))
 exact ⟨rfl,H.ext⟩
/-- May an edge be a due's? -/
def DA (h:Int) (e:Ed):Bool:=((((decide (e.f<h) && decide (e.t<h)) && !decide (e.f=e.t)) && decide (1≤e.cap)) && decide (-1000≤e.cost)) && decide (e.cost ≤ -1)
set_option maxRecDepth 20000 in
theorem Z9 (r:Rnd) (q:RSl) (e:Ed) (w:World) (hN : -9223372036854775808<r.N∧r.N≤9223372036854775807):Ret Tryz.prog 96 #[.agg (AH r q).toArray,.agg (Bv e).toArray] w fun v w'=>v = .bool (DA (r.N - 1) e)∧Ext [] w w':=by
 obtain ⟨w0,rfl⟩:∃ w0,w0=w:=⟨_,rfl⟩
 have H:=Ctx.start w0 []
 refine A1 (fn:=Tryz.f96) Tryz.func96 rfl [.agg (AH r q).toArray,.agg (Bv e).toArray] rfl (by kernel_rfl) ?_
 refine Ag (Bs rfl (AH r q) (.agg _) rfl rfl H ?_)
 rintro b2 w - H
 refine Bs rfl (Bv e) (.agg _) rfl rfl H ?_
 rintro b3 w - H
 refine Ai rfl rfl (Ab (Aa (Ag (Bh rfl CQ C2 rfl H at1 rfl (Ao rfl JZ (HY r q _ hN) rfl ?_)))))
 rintro v w ⟨rfl,hx7⟩
 replace H:=H.call hx7
 refine Af rfl rfl (Ab (Aa (Ag (B5 (α:=Unit) 1099511627536 (fun _=>[(4,.bool (DA (r.N - 1) e))]) (fun _ w'=>Ctx w0 [] w' [(b3,Bl 92 (Bv e)),(b2,Bl 33 (AH r q))]) rfl ?_ ?_))))
 ·refine Ah rfl Dp rfl (AA rfl BH rfl H at0 rfl (Ad rfl rfl (AN rfl rfl rfl (Ak rfl rfl (A8 12 rfl ?_ ?_)))))
  ·intro h1
   replace h1:=AF h1
   refine Ah rfl Dz rfl (AA rfl BH rfl H at0 rfl (Ad rfl rfl (AN rfl rfl rfl (Am rfl rfl (.bool _) rfl (Ak rfl rfl (A8 18 rfl ?_ ?_))))))
   ·intro h2
    replace h2:=AF h2
    refine Ah rfl Dp rfl (AA rfl BH rfl H at0 rfl (Ah rfl Dz rfl (AA rfl BH rfl H at0 rfl (CH rfl rfl rfl (Am rfl rfl (.bool _) rfl (Ak rfl rfl (A8 25 rfl ?_ ?_)))))))
    ·intro h3
     replace h3:=CO h3
     refine Ah rfl CU rfl (AA rfl Bw rfl H at0 rfl (CD rfl rfl rfl (Am rfl rfl (.bool _) rfl (Ak rfl rfl (A8 30 rfl ?_ ?_)))))
     ·intro h4
      replace h4:=AF h4
      refine Ah rfl Dq rfl (AA rfl Bw rfl H at0 rfl (CD rfl rfl rfl (Am rfl rfl (.bool _) rfl (Ak rfl rfl (A8 35 rfl ?_ ?_)))))
      ·intro h5
       replace h5:=AF h5
       refine Ah rfl Dq rfl (AA rfl Bw rfl H at0 rfl (J3 rfl rfl rfl (Am rfl rfl (.bool _) rfl (Ai rfl rfl (Ab ?_)))))
       exact ⟨rfl,(),rfl,⟨congrArg Value.bool (by unfold DA; rw [Bool.eq_iff_iff]; simp_all; done),trivial⟩,H⟩
      ·intro h6
       replace h6:=AG h6
       refine Ae rfl (Ae rfl (Ae rfl (A3 rfl rfl (.bool _) rfl (Ai rfl rfl (Ab ?_)))))
       exact ⟨rfl,(),rfl,⟨congrArg Value.bool (by unfold DA; rw [Bool.eq_iff_iff]; simp_all; omega),trivial⟩,H⟩
     ·intro h7
      replace h7:=AG h7
      refine Ae rfl (Ae rfl (Ae rfl (A3 rfl rfl (.bool _) rfl (Ak rfl rfl (Ae rfl (Ae rfl (Ae rfl (A3 rfl rfl (.bool _) rfl (Ai rfl rfl ?_)))))))))
      refine Ab ?_
      exact ⟨rfl,(),rfl,⟨congrArg Value.bool (by unfold DA; rw [Bool.eq_iff_iff]; simp_all; omega),trivial⟩,H⟩
    ·intro h8
     replace h8:=CP h8
     refine Ae rfl (Ae rfl (Ae rfl (A3 rfl rfl (.bool _) rfl (Ak rfl rfl (Ae rfl (Ae rfl (Ae rfl (A3 rfl rfl (.bool _) rfl (Ak rfl rfl ?_)))))))))
     refine Ae rfl (Ae rfl (Ae rfl (A3 rfl rfl (.bool _) rfl (Ai rfl rfl (Ab ?_)))))
     exact ⟨rfl,(),rfl,⟨congrArg Value.bool (by unfold DA; rw [Bool.eq_iff_iff]; simp_all; done),trivial⟩,H⟩
   ·intro h9
    replace h9:=AG h9
    refine Ae rfl (Ae rfl (Ae rfl (Ae rfl (Ae rfl (A3 rfl rfl (.bool _) rfl (Ak rfl rfl (Ae rfl (Ae rfl (Ae rfl ?_)))))))))
    refine A3 rfl rfl (.bool _) rfl (Ak rfl rfl (Ae rfl (Ae rfl (Ae rfl (A3 rfl rfl (.bool _) rfl (Ak rfl rfl (Ae rfl (Ae rfl (Ae rfl ?_)))))))))
    refine A3 rfl rfl (.bool _) rfl (Ai rfl rfl (Ab ?_))
    exact ⟨rfl,(),rfl,⟨congrArg Value.bool (by unfold DA; rw [Bool.eq_iff_iff]; simp_all; omega),trivial⟩,H⟩
  ·intro h10
   replace h10:=AG h10
   refine Ae rfl (Ae rfl (Ae rfl (Ae rfl (A3 rfl rfl (.bool _) rfl (Ak rfl rfl (Ae rfl (Ae rfl (Ae rfl (Ae rfl ?_)))))))))
   refine Ae rfl (A3 rfl rfl (.bool _) rfl (Ak rfl rfl (Ae rfl (Ae rfl (Ae rfl (A3 rfl rfl (.bool _) rfl (Ak rfl rfl (Ae rfl (Ae rfl ?_)))))))))
   refine Ae rfl (A3 rfl rfl (.bool _) rfl (Ak rfl rfl (Ae rfl (Ae rfl (Ae rfl (A3 rfl rfl (.bool _) rfl (Ai rfl rfl (Ab ?_))))))))
   exact ⟨rfl,(),rfl,⟨congrArg Value.bool (by unfold DA; rw [Bool.eq_iff_iff]; simp_all; omega),trivial⟩,H⟩
 rintro - j4 w H
 refine A9 (AB (v:=(.bool _)) rfl rfl rfl ?_)
 exact ⟨rfl,H.ext⟩
abbrev Aaj (b:Nat):Value := .func (.func 95) #[] #[ptr b]
theorem Vs (r:Rnd) (q:RSl) (e:Ed) (b:Nat) (w:World) (hb:w.heap[b]? = some (Bl 33 (AH r q))) (hN : -9223372036854775808<r.N∧r.N≤9223372036854775807):Ret Tryz.prog 95 #[.agg (Bv e).toArray,ptr b] w fun v w'=>v = .bool (!DA (r.N - 1) e)∧Ext [] w w':=by
 obtain ⟨w0,rfl⟩:∃ w0,w0=w:=⟨_,rfl⟩
 have H:=Ctx.start w0 []
 refine A1 (fn:=Tryz.f95) Tryz.func95 rfl [.agg (Bv e).toArray,.pointer (some ⟨b,0,none⟩)] rfl (by kernel_rfl) ?_
 refine Ag (Bs rfl (Bv e) (.agg _) rfl rfl H ?_)
 rintro b2 w - H
 refine Ai rfl rfl (Ab (Aa (Ag (Cr _ rfl CQ C2 rfl rfl ((CF (b:=b) (t:=33) (l:=AH r q) (H.ext.to hb (by simp)) 0 (AH r q) rfl)) ?_))))
 refine Bh rfl DX BC rfl H at0 rfl (Ao rfl ca_96 (Z9 r q e _ hN) rfl ?_)
 rintro v w ⟨rfl,hx6⟩
 replace H:=H.call hx6
 refine Bu rfl rfl (Ai rfl rfl (Ab (Aa (A9 (AB (v:=(.bool _)) rfl rfl rfl ?_)))))
 exact ⟨rfl,H.ext⟩
set_option maxRecDepth 20000 in
theorem ZA (r:Rnd) (q:RSl) (b:Nat) (a:Option Addr) (n c:Nat) (es:List Ed) (w:World) (hb:w.heap[b]? = some (Bl 33 (AH r q))) (hN : -9223372036854775808<r.N∧r.N≤9223372036854775807) (R:Rd w a 4 Bv es) (hn:es.length=n) (hn2:n≤1000000) :
  Ret Tryz.prog 155 #[.slice a n c,Aaj b] w fun v w'=>∃ i:Int,v = .int .i64 i∧(0≤i↔es.all (DA (r.N - 1))=false)∧Ext [] w w':=by
 subst hn
 obtain ⟨w0,rfl⟩:∃ w0,w0=w:=⟨_,rfl⟩
 have H:=Ctx.start w0 []
 refine A1 (fn:=Tryz.f155) Tryz.func155 rfl [.slice a es.length c,.func (.func 95) #[] #[.pointer (some ⟨b,0,none⟩)]] rfl (by kernel_rfl) ?_
 refine Ag (Af rfl rfl (Ab (Aa (Aq (Ag (An rfl rfl (AU rfl Ce rfl (Ad rfl rfl (Ab (Aa (Au ?_)))))))))))
 refine Bi 524080 (α:=Nat) (fun i=>[(8,.int .i64 (i:Int))]) (fun i w'=>i≤es.length∧Ctx w0 [] w' []∧∀ (j:Nat) (e:Ed),j<i→es[j]? = some e→DA (r.N - 1) e=true) (fun i=>es.length - i) 0 rfl ?_ ?_ ?_
 ·exact ⟨rfl,trivial⟩
 ·exact ⟨Nat.zero_le _,H,fun j e h=>absurd h (Nat.not_lt_zero _)⟩
 ·clear H
  rintro i j w ⟨hi,H,hbf⟩
  refine Ag (AN rfl rfl rfl (Ab (Aa (Aq (Ax _ rfl ?_ ?_)))))
  ·intro h1
   replace h1:=AF h1
   obtain ⟨e,he⟩:=AC (l:=es) (i:=i) (by omega)
   have R1:=R.ext0 H.ext
   refine Av (Aa (Aq (Au (Ag (Ad rfl rfl (Af rfl rfl (Ab (Aa (Ag (Cd rfl (.func _ _ _) rfl ?_))))))))))
   refine An rfl rfl (Ad rfl rfl (AZ R1 rfl Ce BC rfl rfl (by omega) (by omega) (by rfl) ?_))
   refine Cr _ rfl DX BC rfl rfl ((R1.row he rfl)) ?_
   refine Cs rfl rfl ca_95 (Vs r q e b _ (H.ext.to hb (by simp)) hN) rfl ?_
   rintro v w ⟨rfl,hx16⟩
   replace H:=H.call hx16
   refine Ab (Aa (Ax _ rfl ?_ ?_))
   ·intro h2
    refine Ag (Ad rfl rfl (Af rfl rfl (Ab (Aa (A9 (A4 (Al (Al (A4 (Al (AB (v:=(.int _ _)) rfl rfl rfl ?_)))))))))))
    refine ⟨i,rfl,⟨fun _=>?_,fun _=>by omega⟩,H.ext⟩
    rw [← Bool.not_eq_true,List.all_eq_true]
    intro h
    have h9:=h e (List.mem_of_getElem? he)
    simp_all
   ·intro h2
    refine Av (A5 (Aa (Aw (Ap rfl rfl rfl (by omega) (by omega) ?_))))
    refine Ad rfl rfl (Ab (Aa ?_))
    refine ⟨i+1,rfl,⟨rfl,trivial⟩,⟨by omega,H,fun j' e' hj he'=>?_⟩,by omega⟩
    rcases Nat.lt_or_ge j' i with h3 | h3
    ·exact hbf j' e' h3 he'
    ·obtain rfl:j'=i:=by omega
     rw [he] at he'; cases he'
     simpa using h2
  ·intro h1
   replace h1:=AG h1
   obtain rfl:i=es.length:=by omega
   refine Bd (Aj (Aj (AD (Aa (Ag (Af rfl rfl (Ab (Aa (A9 (AB (v:=(.int _ _)) rfl rfl rfl ?_))))))))))
   refine ⟨-1,rfl,⟨fun h=>by omega,fun h=>?_⟩,H.ext⟩
   exfalso
   have:es.all (DA (r.N - 1))=true:=List.all_eq_true.2 fun e he=>by
    obtain ⟨k,hk⟩:=List.mem_iff_getElem?.1 he
    exact hbf k e (CB hk) hk
   rw [this] at h; cases h
theorem XI (r:Rnd) (q:RSl) (b:Nat) (a:Option Addr) (n c:Nat) (es:List Ed) (w:World) (hb:w.heap[b]? = some (Bl 33 (AH r q))) (hN : -9223372036854775808<r.N∧r.N≤9223372036854775807) (R:Rd w a 4 Bv es) (hn:es.length=n) (hn2:n≤1000000) :
  Ret Tryz.prog 94 #[.slice a n c,Aaj b] w fun v w'=>v = .bool (!es.all (DA (r.N - 1)))∧Ext [] w w':=by
 obtain ⟨w0,rfl⟩:∃ w0,w0=w:=⟨_,rfl⟩
 have H:=Ctx.start w0 []
 refine A1 (fn:=Tryz.f94) Tryz.func94 rfl [.slice a n c,.func (.func 95) #[] #[.pointer (some ⟨b,0,none⟩)]] rfl (by kernel_rfl) ?_
 refine Ag (Ai rfl rfl (Ab (Aa (Ag (An rfl rfl (Cd rfl (.func (.func 95) #[] #[.pointer (some ⟨b,0,none⟩)]) rfl ?_))))))
 refine Ao rfl Abq (ZA r q b a n c es _ (H.ext.to hb (by simp)) hN (R.ext0 H.ext) hn hn2) rfl ?_
 rintro v w ⟨i,rfl,hi,hx7⟩
 replace H:=H.call hx7
 refine CD rfl rfl rfl (Ai rfl rfl (Ab (Aa (A9 (AB (v:=(.bool _)) rfl rfl rfl ?_)))))
 refine ⟨congrArg Value.bool ?_,H.ext⟩
 rw [Bool.eq_iff_iff,decide_eq_true_eq,Bool.not_eq_true',← hi]
def F2 (h:Int) (rest:List Ed) (b:Nat):Bool:=decide (rest.getD (2*b) e0=⟨h,b,(rest.getD (2*b) e0).cap,0⟩) && decide (rest.getD (2*b+1) e0=⟨b,h,4503599627370496,0⟩)
def ID (r:Rnd):Bool:=((((Ea r.N r.es r.fl r.pot && decide (0≤r.day)) && decide (r.ids.length≤64)) && decide r.ids.Nodup) && decide (r.N - 1≤16)) && decide (r.ids.length≤r.es.length)
def GU (r:Rnd):Bool:=if r.cmp=true then decide ((r.es.drop r.ids.length).length=0) else decide (((r.es.drop r.ids.length).length:Int)=2*(r.N - 1)) && (List.range (r.N - 1).toNat).all (F2 (r.N - 1) (r.es.drop r.ids.length))
/-- Is a round right? -/
def BA (r:Rnd):Bool:=ID r && ((r.es.take r.ids.length).all (DA (r.N - 1)) && GU r)
theorem MQ {r:Rnd} (h:ID r=true):Ea r.N r.es r.fl r.pot=true∧0≤r.day∧r.ids.length≤64∧r.ids.Nodup∧r.N - 1≤16∧r.ids.length≤r.es.length:=by
 unfold ID at h
 simp only [Bool.and_eq_true,decide_eq_true_eq] at h
 exact ⟨h.1.1.1.1.1,h.1.1.1.1.2,h.1.1.1.2,h.1.1.2,h.1.2,h.2⟩
theorem Jf {N:Int} {es:List Ed} {fl pot:List Int} (h:Ea N es fl pot=true):1≤N∧N≤40∧es.length≤200∧fl.length=es.length∧(pot.length:Int)=N:=by
 obtain ⟨h1,h2,-⟩:=Gg.1 h
 have h3:=BE (Fq h1).1
 have h4:=BR h3.2.1
 exact ⟨h4.1,h4.2.1,h4.2.2.1,h3.1,(JE h2).1⟩
set_option maxRecDepth 20000 in
set_option maxHeartbeats 8000000 in
theorem Ht (r:Rnd) (q:RSl) (w:World) (RA:RAt w r q) (hEc:r.es.length≤q.cE) (hr:RBnd r):Ret Tryz.prog 36 #[.agg (AH r q).toArray] w fun v w'=>v = .bool (BA r)∧Ext [] w w':=by
 obtain ⟨w0,rfl⟩:∃ w0,w0=w:=⟨_,rfl⟩
 have H:=Ctx.start w0 []
 have hNb:=hr.N
 unfold I64 at hNb
 have h1e:=hr.es
 have h1i:=hr.ids
 obtain ⟨ck,hck⟩:∃ ck,ck=Ea r.N r.es r.fl r.pot:=⟨_,rfl⟩
 have hN:ck=true→1≤r.N∧r.N≤40:=fun h=>⟨(Jf (hck.symm.trans h)).1,(Jf (hck.symm.trans h)).2.1⟩
 obtain ⟨nd,hnd⟩:∃ nd,nd=decide r.ids.Nodup:=⟨_,rfl⟩
 refine A1 (fn:=Tryz.f36) Tryz.func36 rfl [.agg (AH r q).toArray] rfl (by kernel_rfl) ?_
 have hhd:ID r=(((((ck && decide (0≤r.day)) && decide (r.ids.length≤64)) && nd) && decide (r.N - 1≤16)) && decide (r.ids.length≤r.es.length)):=by unfold ID; rw [← hck,← hnd]
 refine Ag (Bs rfl (AH r q) (.agg _) rfl rfl H ?_)
 rintro b1 w - H
 refine Ai rfl rfl (Ab (Aa (Ag (Ah rfl ED rfl (AA rfl Fm rfl H at0 rfl (AU rfl Be rfl (Af rfl rfl (Ab (Aa (Aq (Ag (B5 (α:=Unit) 17592186043392 (fun _=>[(43,.bool (!ID r))]) (fun _ w'=>Ctx w0 [] w' [(b1,Bl 33 (AH r q))]) rfl ?_ ?_))))))))))))
 ·refine Ah rfl DG rfl (Cr _ rfl Cu Ci rfl rfl ((CF (b:=b1) (t:=33) (l:=AH r q) (H.get at0) 4 [.int .i64 r.N,.slice q.aE r.es.length q.cE] rfl)) ?_)
  refine Ah rfl Ep rfl (Cr _ rfl Qn M1 rfl rfl ((CF (b:=b1) (t:=33) (l:=AH r q) (H.get at0) 6 [.slice q.aF r.fl.length q.cF,.slice q.aP r.pot.length q.cP] rfl)) ?_)
  refine Ao rfl ca_66 (WZ r.N q.aE q.aF q.aP _ q.cE _ q.cF _ q.cP r.es r.fl r.pot _ (RA.E.ext0 H.ext) rfl hr.N (RA.F.ext0 H.ext) rfl (by have:=hr.fl; omega) (RA.P.ext0 H.ext) rfl (by have:=hr.pot; omega)) rfl ?_
  rintro v w ⟨rfl,hx14⟩
  rw [← hck]
  replace H:=H.call hx14
  refine Bu rfl rfl (Ak rfl rfl (A8 16 rfl ?_ ?_))
  ·intro h1
   replace h1:=Bp h1
   refine Ae rfl (Ae rfl (Ae rfl (Am rfl rfl (.bool _) rfl (Ak rfl rfl (Ae rfl (Ae rfl (Am rfl rfl (.bool _) rfl (Ak rfl rfl (Ae rfl ?_)))))))))
   refine Ae rfl (Ae rfl (Ae rfl (Am rfl rfl (.bool _) rfl (Ak rfl rfl (Ae rfl (Ae rfl (Ae rfl (Am rfl rfl (.bool _) rfl (Ak rfl rfl ?_)))))))))
   refine Ae rfl (Ae rfl (Ae rfl (Ae rfl (Ae rfl (Ae rfl (Am rfl rfl (.bool _) rfl (Ab ?_)))))))
   exact ⟨rfl,(),rfl,⟨congrArg Value.bool (by rw [hhd,Bool.eq_iff_iff]; simp_all; done),trivial⟩,H⟩
  ·intro h2
   replace h2:=Bq h2
   refine Ah rfl Lx rfl (AA rfl Bw rfl H at0 rfl (AN rfl rfl rfl (A3 rfl rfl (.bool _) rfl (Ak rfl rfl (A8 21 rfl ?_ ?_)))))
   ·intro h3
    replace h3:=AF h3
    refine Ae rfl (Ae rfl (Am rfl rfl (.bool _) rfl (Ak rfl rfl (Ae rfl (Ae rfl (Ae rfl (Ae rfl (Am rfl rfl (.bool _) rfl (Ak rfl rfl ?_)))))))))
    refine Ae rfl (Ae rfl (Ae rfl (Am rfl rfl (.bool _) rfl (Ak rfl rfl (Ae rfl (Ae rfl (Ae rfl (Ae rfl (Ae rfl ?_)))))))))
    refine Ae rfl (Am rfl rfl (.bool _) rfl (Ab ?_))
    exact ⟨rfl,(),rfl,⟨congrArg Value.bool (by rw [hhd,Bool.eq_iff_iff]; simp_all; done),trivial⟩,H⟩
   ·intro h4
    replace h4:=AG h4
    refine Ad rfl rfl (C0 rfl rfl rfl (A3 rfl rfl (.bool _) rfl (Ak rfl rfl (A8 25 rfl ?_ ?_))))
    ·intro h5
     replace h5:=AF h5
     refine Ae rfl (Ae rfl (Ae rfl (Ae rfl (Am rfl rfl (.bool _) rfl (Ak rfl rfl (Ae rfl (Ae rfl (Ae rfl (Am rfl rfl (.bool _) rfl ?_)))))))))
     refine Ak rfl rfl (Ae rfl (Ae rfl (Ae rfl (Ae rfl (Ae rfl (Ae rfl (Am rfl rfl (.bool _) rfl (Ab ?_))))))))
     exact ⟨rfl,(),rfl,⟨congrArg Value.bool (by rw [hhd,Bool.eq_iff_iff]; simp_all; omega),trivial⟩,H⟩
    ·intro h6
     replace h6:=AG h6
     refine Ah rfl ED rfl (AA rfl Fm rfl H at0 rfl (Ao rfl ca_93 (Z8 q.aI _ q.cI r.ids _ (RA.I.ext0 H.ext) rfl hr.ids) rfl ?_))
     rintro v w ⟨rfl,hx28⟩
     rw [← hnd]
     replace H:=H.call hx28
     refine Bu rfl rfl (A3 rfl rfl (.bool _) rfl (Ak rfl rfl (A8 31 rfl ?_ ?_)))
     ·intro h7
      replace h7:=Bp h7
      refine Ae rfl (Ae rfl (Ae rfl (Am rfl rfl (.bool _) rfl (Ak rfl rfl (Ae rfl (Ae rfl (Ae rfl (Ae rfl (Ae rfl ?_)))))))))
      refine Ae rfl (Am rfl rfl (.bool _) rfl (Ab ?_))
      exact ⟨rfl,(),rfl,⟨congrArg Value.bool (by rw [hhd,Bool.eq_iff_iff]; simp_all; done),trivial⟩,H⟩
     ·intro h8
      replace h8:=Bq h8
      refine Bh rfl CQ C2 rfl H at0 rfl (Ao rfl JZ (HY r q _ (by have:=hN (by simp_all); omega)) rfl ?_)
      rintro v w ⟨rfl,hx33⟩
      replace H:=H.call hx33
      refine C0 rfl rfl rfl (A3 rfl rfl (.bool _) rfl (Ak rfl rfl (A8 36 rfl ?_ ?_)))
      ·intro h9
       replace h9:=AF h9
       refine Ae rfl (Ae rfl (Ae rfl (Ae rfl (Ae rfl (Ae rfl (Am rfl rfl (.bool _) rfl (Ab ?_)))))))
       exact ⟨rfl,(),rfl,⟨congrArg Value.bool (by rw [hhd,Bool.eq_iff_iff]; simp_all; done),trivial⟩,H⟩
      ·intro h10
       replace h10:=AG h10
       refine Ah rfl DG rfl (Ah rfl BU rfl (AA rfl CI rfl H at0 rfl (AU rfl Ce rfl (Ad rfl rfl (AN rfl rfl rfl (A3 rfl rfl (.bool _) rfl (Ab ?_)))))))
       exact ⟨rfl,(),rfl,⟨congrArg Value.bool (by rw [hhd,Bool.eq_iff_iff]; simp_all; omega),trivial⟩,H⟩
 rintro - j43 w H
 refine Ax _ rfl ?_ ?_
 ·intro h1
  replace h1:=Bp h1
  refine Ag (Ai rfl rfl (Ab (Aa (A9 (Al (AB (v:=(.bool _)) rfl rfl rfl ?_))))))
  exact ⟨congrArg Value.bool (by unfold BA; rw [h1]; rfl),H.ext⟩
 ·intro h1
  replace h1:=Bq h1
  obtain ⟨g1,g2,g3,g4,g5,g6⟩:=MQ h1
  have hNN:=Jf g1
  have RT:Rd w q.aE 4 Bv (r.es.take r.ids.length):=(RA.E.ext0 H.ext).take _
  have hRB:BA r=((r.es.take r.ids.length).all (DA (r.N - 1)) && GU r):=by unfold BA; rw [h1]; rfl
  rw [hRB]
  obtain ⟨hh,hhN⟩:∃ hh:Nat,r.N - 1=hh:=⟨(r.N - 1).toNat,by omega⟩
  obtain ⟨rest,hrest⟩:∃ rest,rest=r.es.drop r.ids.length:=⟨_,rfl⟩
  have hrl:rest.length=r.es.length - r.ids.length:=by rw [hrest,List.length_drop]
  refine Av (Aa (Ag (Ah rfl DG rfl (Ah rfl BU rfl (AA rfl CI rfl H at0 rfl (Ad rfl rfl (EU rfl Ce BC rfl rfl (by omega) (by omega) ?_)))))))
  refine AJ rfl rfl (Ab (Aa (Aq (Ag (Ah rfl DG rfl (Ah rfl BU rfl (AA rfl CI rfl H at0 rfl (Ad rfl rfl (EV rfl Ce BC rfl rfl (by omega) (by omega) ?_)))))))))
  refine C1 rfl [.pointer _] rfl (Ao rfl ca_94 (XI r q b1 q.aE _ q.cE (r.es.take r.ids.length) _ (H.get at0) (by omega) ((RA.E.ext0 H.ext).take _) (by rw [List.length_take]; omega) (by omega)) rfl ?_)
  rintro v w ⟨rfl,hx55⟩
  replace H:=H.call hx55
  refine Ab (Aa (Ax _ rfl ?_ ?_))
  ·intro h2
   refine Ag (Ai rfl rfl (Ab (Aa (A9 (Al (AB (v:=(.bool _)) rfl rfl rfl ?_))))))
   exact ⟨congrArg Value.bool (by rw [Bool.not_eq_true'] at h2; rw [h2]; rfl),H.ext⟩
  ·intro h2
   have h2':(r.es.take r.ids.length).all (DA (r.N - 1))=true:=by simpa using h2
   rw [h2',Bool.true_and]
   unfold GU
   rw [← hrest]
   refine Av (Aa (Aq (Ag (Ah rfl IX rfl (AA rfl Hf rfl H at0 rfl (Ab (Aa (Ax _ rfl ?_ ?_))))))))
   ·intro h3
    refine Ag (An rfl rfl (AU rfl Ce rfl (BX rfl rfl rfl (Ai rfl rfl (Ab (Aa (A9 (Al (AB (v:=(.bool _)) rfl rfl rfl ?_)))))))))
    exact ⟨congrArg Value.bool (by rw [if_pos h3,Bool.eq_iff_iff,decide_eq_true_eq,decide_eq_true_eq]; omega),H.ext⟩
   ·intro h3
    rw [if_neg (by simp [h3])]
    refine Av (Aa (Aq (Ag (An rfl rfl (AU rfl Ce rfl (Bh rfl CQ C2 rfl H at0 rfl (Ao rfl JZ (HY r q _ (by omega)) rfl ?_)))))))
    rintro v w ⟨rfl,hx64⟩
    replace H:=H.call hx64
    refine Cf rfl rfl rfl (by omega) (by omega) ?_
    refine CH rfl rfl rfl (Ab (Aa (Ax _ rfl ?_ ?_)))
    ·intro h4
     replace h4:=CO h4
     refine Ag (Ai rfl rfl (Ab (Aa (A9 (Al (AB (v:=(.bool _)) rfl rfl rfl ?_))))))
     exact ⟨congrArg Value.bool (by rw [decide_eq_false (by omega)]; rfl),H.ext⟩
    ·intro h4
     replace h4:=CP h4
     rw [decide_eq_true (show (rest.length:Int)=2*(r.N - 1) by omega),Bool.true_and,hhN,Int.toNat_natCast]
     have RR:Rd w0 (J5 q.aE q.cE r.ids.length 4) 4 Bv rest:=by rw [hrest]; exact RA.E.cut _ _ hEc
     refine Av (Aa (Aq (Ag (Bh rfl CQ C2 rfl H at0 rfl (Ao rfl JZ (HY r q _ (by omega)) rfl ?_)))))
     rintro v w ⟨rfl,hx68⟩
     replace H:=H.call hx68
     refine Ad rfl rfl (Ab (Aa (Au (Bi 158456324438232864828382249060 (α:=Nat) (fun i=>[(69,.int .i64 (i:Int))]) (fun i w'=>(i≤hh∧∀ b,b<i→F2 (hh:Int) rest b=true)∧Ctx w0 [] w' [(b1,Bl 33 (AH r q))]) (fun i=>hh - i) 0 rfl ?_ ?_ ?_))))
     ·exact ⟨rfl,trivial⟩
     ·exact ⟨⟨Nat.zero_le _,fun b h=>absurd h (Nat.not_lt_zero _)⟩,H⟩
     ·clear H
      rintro i j w ⟨⟨hi,hbf⟩,H⟩
      refine Ag (AN rfl rfl rfl (Ab (Aa (Aq (Ax _ rfl ?_ ?_)))))
      ·intro h5
       replace h5:=AF h5
       obtain ⟨x,hxe⟩:=AC (l:=rest) (i:=2*i) (by omega)
       obtain ⟨y,hye⟩:=AC (l:=rest) (i:=2*i+1) (by omega)
       have hat:F2 (hh:Int) rest i=(decide (x=⟨hh,i,x.cap,0⟩) && decide (y=⟨i,hh,4503599627370496,0⟩)):=by unfold F2; rw [Bn hxe,Bn hye]
       have hidx:(2*(i:Int)).toNat=2*i:=by omega
       have hidx2:(2*(i:Int)+1).toNat=2*i+1:=by omega
       have hno:F2 (hh:Int) rest i=false→(List.range hh).all (F2 (hh:Int) rest)=false:=fun h=>by
        rw [← Bool.not_eq_true,List.all_eq_true]
        intro h9
        have:=h9 i (List.mem_range.2 (by omega))
        rw [h] at this; cases this
       refine Av (Aa (Aq (Au (Ag (Ad rfl rfl (Af rfl rfl (Ab (Aa (Ag (An rfl rfl (Ad rfl rfl ?_)))))))))))
       refine Cf rfl rfl rfl (by omega) (by omega) ?_
       refine AZ RR rfl Ce BC rfl rfl (by omega) (by omega) (by omega) ?_
       rw [hidx]
       refine Cr _ rfl DX BC rfl rfl (((RR.ext0 H.ext).row hxe rfl)) ?_
       refine Bm rfl DH H ?_
       rintro b6 w - H
       refine BD rfl BC rfl rfl rfl (by exact Dk _) H at0 rfl ?_
       rintro w H
       refine Ab (Aa ?_)
       have HG:=H
       have hb6:=H.get at0
       have hb1:=H.get at1
       obtain ⟨w3,rfl⟩:∃ z,z=w:=⟨_,rfl⟩
       have H:=Ctx.start w3 []
       refine CZ [([0,1,2,3,4],5),([6,7,8,9,10,11,12,13,14,15],16),([17],18)] (fun z=>Ext [] w3 z) [] B3 (by kernel_rfl) (Ext.drew [] w3) ?_
       refine Ba rfl rfl ?_
       refine Gl _ rfl DX BC rfl rfl (fun _ hx=>(CF (b:=b6) (t:=92) (l:=Bv x) (hx.to hb6 (by simp)) 0 (Bv x) rfl)) ?_
       refine Gl _ rfl CQ C2 rfl rfl (fun _ hx=>(CF (b:=b1) (t:=33) (l:=AH r q) (hx.to hb1 (by simp)) 0 (AH r q) rfl)) ?_
       refine AO rfl rfl (AV rfl CU rfl (Ck rfl Bw rfl (fun _ hx=>(by rw [Ay (hx.to hb6 (by simp))]; rfl)) ?_))
       refine BJ ?_
       replace H:=H.drew
       refine Ao rfl ZW (Aai r q i x.cap _ (by omega)) rfl ?_
       rintro v w ⟨rfl,hx82⟩
       replace H:=H.call hx82
       rw [hhN]
       refine Ab (CX (H.ext) (Ba rfl rfl ?_))
       refine Aah (ks:=[true,true,true,true]) (xs:=Bv x) (ys:=Bv ⟨hh,i,x.cap,0⟩) (decide (x=⟨hh,i,x.cap,0⟩)) rfl (by kernel_rfl) rfl rfl ⟨rfl,rfl,rfl,rfl,trivial⟩ (Kj _ _) ?_
       refine OK rfl rfl (Mf 84 rfl ?_ ?_)
       ·intro h6
        refine DV rfl (DV rfl (DV rfl (DV rfl (DV rfl (DV rfl (DV rfl (DV rfl (BJ (Ae rfl ?_)))))))))
        refine Ab (CX (H.ext) (Ba rfl rfl ?_))
        refine DV rfl (BJ (Am rfl rfl (.bool _) rfl (Ab (CX (H.ext) (Ch (CM rfl (Ag (Ai rfl rfl (Ab (Aa (A9 (A4 (Al (Al (A4 (Al (AB (v:=(.bool _)) rfl rfl rfl ?_)))))))))))))))))
        have h6':¬ x=⟨hh,i,x.cap,0⟩:=by simpa using h6
        exact ⟨congrArg Value.bool (hno (by rw [hat,decide_eq_false h6']; rfl)).symm,HG.ext.trans H.ext⟩
       ·intro h6
        refine Bo rfl rfl (AO rfl rfl (U4 rfl rfl rfl (by omega) (by omega) ?_))
        refine DW rfl rfl rfl (by omega) (by omega) ?_
        refine CL RR rfl Ce BC rfl rfl (by omega) (by omega) (by omega) ?_
        rw [hidx2]
        refine Gl _ rfl DX BC rfl rfl (fun _ hx=>((RR.ext0 (HG.ext.trans hx)).row hye rfl)) ?_
        refine Gl _ rfl CQ C2 rfl rfl (fun _ hx=>(CF (b:=b1) (t:=33) (l:=AH r q) (hx.to hb1 (by simp)) 0 (AH r q) rfl)) ?_
        refine AO rfl rfl (BJ (Ao rfl ZX (XH r q i _ (by omega)) rfl ?_))
        rintro v w ⟨rfl,hx93⟩
        replace H:=H.call hx93
        rw [hhN]
        refine Ab (CX (H.ext) (Ba rfl rfl ?_))
        refine Aah (ks:=[true,true,true,true]) (xs:=Bv y) (ys:=Bv ⟨i,hh,4503599627370496,0⟩) (decide (y=⟨i,hh,4503599627370496,0⟩)) rfl (by kernel_rfl) rfl rfl ⟨rfl,rfl,rfl,rfl,trivial⟩ (Kj _ _) ?_
        refine BJ (A3 rfl rfl (.bool _) rfl (Ab (CX (H.ext) (Ch (Ax _ rfl ?_ ?_)))))
        ·intro h7
         refine Ag (Ai rfl rfl (Ab (Aa (A9 (A4 (Al (Al (A4 (Al (AB (v:=(.bool _)) rfl rfl rfl ?_))))))))))
         have h7':¬ y=⟨i,hh,4503599627370496,0⟩:=by simpa using h7
         exact ⟨congrArg Value.bool (hno (by rw [hat,decide_eq_false h7',Bool.and_false])).symm,HG.ext.trans H.ext⟩
        ·intro h7
         refine Av (A5 (Aa (Aw (Ap rfl rfl rfl (by omega) (by omega) ?_))))
         refine Ad rfl rfl (Ab (Aa ?_))
         refine ⟨i+1,rfl,⟨rfl,trivial⟩,⟨⟨by omega,fun b hb=>?_⟩,(HG.call H.ext).tail⟩,by omega⟩
         rcases Nat.lt_or_ge b i with h8 | h8
         ·exact hbf b h8
         ·obtain rfl:b=i:=by omega
          have h6':x=⟨hh,b,x.cap,0⟩:=by simpa using h6
          have h7':y=⟨b,hh,4503599627370496,0⟩:=by simpa using h7
          rw [hat,decide_eq_true h6',decide_eq_true h7']; rfl
      ·intro h5
       replace h5:=AG h5
       obtain rfl:i=hh:=by omega
       refine Bd (Aj (Aj (AD (Aa (Ag (Ai rfl rfl (Ab (Aa (A9 (AB (v:=(.bool _)) rfl rfl rfl ?_))))))))))
       exact ⟨congrArg Value.bool (List.all_eq_true.2 fun b hb=>hbf b (List.mem_range.1 hb)).symm,H.ext⟩
end Go.Proofs.YtapphbmlkdhnmaaGreat

/- Whether a round is right: the walk of the reference's. -/
namespace Go.Proofs.YtapphbmlkdhnmaaGreat
open Go.GV
attribute [local irreducible] A2 W Wq Wt

theorem Uc {x:Ed} {f t c:Int}:x=⟨f,t,x.cap,c⟩↔(x.f=f∧x.t=t)∧x.cost=c:=by
 obtain ⟨a,b,c',d⟩:=x
 simp [and_assoc]
theorem QQ {l:List Int}:l.Nodup↔∀ (k i:Nat) (x y:Int),k<i→l[k]? = some x→l[i]? = some y→x≠y:=by
 rw [List.Nodup,List.pairwise_iff_getElem]
 constructor
 ·intro h k i x y hki hx hy
  obtain ⟨h1,rfl⟩:=List.getElem?_eq_some_iff.1 hx
  obtain ⟨h2,rfl⟩:=List.getElem?_eq_some_iff.1 hy
  exact h k i h1 h2 hki
 ·intro h i j hi hj hij
  exact h i j _ _ hij (List.getElem?_eq_getElem hi) (List.getElem?_eq_getElem hj)
/-- The same, as far as one has gone. -/
def Og (r:Rnd) (z:Int):Bool:=((((Ea r.N r.es r.fl r.pot && decide (0≤r.day)) && decide (r.ids.length≤64)) && decide (0≤z)) && decide (z≤16)) && decide (r.ids.length≤r.es.length)
set_option maxRecDepth 20000 in
set_option maxHeartbeats 16000000 in
theorem Vt (r:Rnd) (q:RSl) (w:World) (RA:RAt w r q) (hEc:r.es.length≤q.cE) (hr:RBnd r):Ret Tryz.prog 31 #[.agg (AH r q).toArray] w fun v w'=>v = .bool (BA r)∧Ext [] w w':=by
 obtain ⟨w0,rfl⟩:∃ w0,w0=w:=⟨_,rfl⟩
 have H:=Ctx.start w0 []
 have hNb:=hr.N
 unfold I64 at hNb
 have h1e:=hr.es
 have h1i:=hr.ids
 obtain ⟨ck,hck⟩:∃ ck,ck=Ea r.N r.es r.fl r.pot:=⟨_,rfl⟩
 refine A1 (fn:=Tryz.f31) Tryz.func31 rfl [.agg (AH r q).toArray] rfl (by kernel_rfl) ?_
 refine Ag (Bs rfl (AH r q) (.agg _) rfl rfl H ?_)
 rintro b1 w - H
 refine Ai rfl rfl (Ab (Aa (Ag (Ah rfl ED rfl (AA rfl Fm rfl H at0 rfl (AU rfl Be rfl (Af rfl rfl (Ab (Aa (Ag (Ah rfl DG rfl ?_)))))))))))
 refine Ah rfl Dn rfl (AA rfl BH rfl H at0 rfl (SX rfl rfl rfl ?_))
 intro z hz
 refine Af rfl rfl (Ab (Aa (Aq ?_)))
 have hhd:Og r z=(((((ck && decide (0≤r.day)) && decide (r.ids.length≤64)) && decide (0≤z)) && decide (z≤16)) && decide (r.ids.length≤r.es.length)):=by unfold Og; rw [← hck]
 refine Ag (B5 (α:=Unit) 1125899906318336 (fun _=>[(49,.bool (!Og r z))]) (fun _ w'=>Ctx w0 [] w' [(b1,Bl 33 (AH r q))]) rfl ?_ ?_)
 ·refine Ah rfl DG rfl (Cr _ rfl Cu Ci rfl rfl ((CF (b:=b1) (t:=33) (l:=AH r q) (H.get at0) 4 [.int .i64 r.N,.slice q.aE r.es.length q.cE] rfl)) ?_)
  refine Ah rfl Ep rfl (Cr _ rfl Qn M1 rfl rfl ((CF (b:=b1) (t:=33) (l:=AH r q) (H.get at0) 6 [.slice q.aF r.fl.length q.cF,.slice q.aP r.pot.length q.cP] rfl)) ?_)
  refine Ao rfl ca_20 (QK r.N q.aE q.aF q.aP _ q.cE _ q.cF _ q.cP r.es r.fl r.pot _ (RA.E.ext0 H.ext) rfl hr.es (RA.F.ext0 H.ext) rfl hr.fl (RA.P.ext0 H.ext) rfl hr.pot) rfl ?_
  rintro v w ⟨rfl,hx23⟩
  rw [← hck]
  replace H:=H.call hx23
  refine Bu rfl rfl (Ak rfl rfl (A8 25 rfl ?_ ?_))
  ·intro h1
   replace h1:=Bp h1
   refine Ae rfl (Ae rfl (Ae rfl (Am rfl rfl (.bool _) rfl (Ak rfl rfl (Ae rfl (Ae rfl (Am rfl rfl (.bool _) rfl (Ak rfl rfl (Ae rfl ?_)))))))))
   refine Ae rfl (Am rfl rfl (.bool _) rfl (Ak rfl rfl (Ae rfl (Ae rfl (Am rfl rfl (.bool _) rfl (Ak rfl rfl (Ae rfl (Ae rfl (Ae rfl ?_)))))))))
   refine Ae rfl (Ae rfl (Ae rfl (Am rfl rfl (.bool _) rfl (Ab ?_))))
   exact ⟨rfl,(),rfl,⟨congrArg Value.bool (by rw [hhd,Bool.eq_iff_iff]; simp_all; done),trivial⟩,H⟩
  ·intro h2
   replace h2:=Bq h2
   refine Ah rfl Lx rfl (AA rfl Bw rfl H at0 rfl (AN rfl rfl rfl (A3 rfl rfl (.bool _) rfl (Ak rfl rfl (A8 30 rfl ?_ ?_)))))
   ·intro h3
    replace h3:=AF h3
    refine Ae rfl (Ae rfl (Am rfl rfl (.bool _) rfl (Ak rfl rfl (Ae rfl (Ae rfl (Am rfl rfl (.bool _) rfl (Ak rfl rfl (Ae rfl (Ae rfl ?_)))))))))
    refine Am rfl rfl (.bool _) rfl (Ak rfl rfl (Ae rfl (Ae rfl (Ae rfl (Ae rfl (Ae rfl (Ae rfl (Am rfl rfl (.bool _) rfl (Ab ?_)))))))))
    exact ⟨rfl,(),rfl,⟨congrArg Value.bool (by rw [hhd,Bool.eq_iff_iff]; simp_all; done),trivial⟩,H⟩
   ·intro h4
    replace h4:=AG h4
    refine Ad rfl rfl (C0 rfl rfl rfl (A3 rfl rfl (.bool _) rfl (Ak rfl rfl (A8 34 rfl ?_ ?_))))
    ·intro h5
     replace h5:=AF h5
     refine Ae rfl (Ae rfl (Am rfl rfl (.bool _) rfl (Ak rfl rfl (Ae rfl (Ae rfl (Am rfl rfl (.bool _) rfl (Ak rfl rfl (Ae rfl (Ae rfl ?_)))))))))
     refine Ae rfl (Ae rfl (Ae rfl (Ae rfl (Am rfl rfl (.bool _) rfl (Ab ?_)))))
     exact ⟨rfl,(),rfl,⟨congrArg Value.bool (by rw [hhd,Bool.eq_iff_iff]; simp_all; omega),trivial⟩,H⟩
    ·intro h6
     replace h6:=AG h6
     refine Ad rfl rfl (AN rfl rfl rfl (A3 rfl rfl (.bool _) rfl (Ak rfl rfl (A8 38 rfl ?_ ?_))))
     ·intro h7
      replace h7:=AF h7
      refine Ae rfl (Ae rfl (Am rfl rfl (.bool _) rfl (Ak rfl rfl (Ae rfl (Ae rfl (Ae rfl (Ae rfl (Ae rfl (Ae rfl ?_)))))))))
      refine Am rfl rfl (.bool _) rfl (Ab ?_)
      exact ⟨rfl,(),rfl,⟨congrArg Value.bool (by rw [hhd,Bool.eq_iff_iff]; simp_all; done),trivial⟩,H⟩
     ·intro h8
      replace h8:=AG h8
      refine Ad rfl rfl (C0 rfl rfl rfl (A3 rfl rfl (.bool _) rfl (Ak rfl rfl (A8 42 rfl ?_ ?_))))
      ·intro h9
       replace h9:=AF h9
       refine Ae rfl (Ae rfl (Ae rfl (Ae rfl (Ae rfl (Ae rfl (Am rfl rfl (.bool _) rfl (Ab ?_)))))))
       exact ⟨rfl,(),rfl,⟨congrArg Value.bool (by rw [hhd,Bool.eq_iff_iff]; simp_all; done),trivial⟩,H⟩
      ·intro h10
       replace h10:=AG h10
       refine Ah rfl DG rfl (Ah rfl BU rfl (AA rfl CI rfl H at0 rfl (AU rfl Ce rfl (Ad rfl rfl (AN rfl rfl rfl (A3 rfl rfl (.bool _) rfl (Ab ?_)))))))
       exact ⟨rfl,(),rfl,⟨congrArg Value.bool (by rw [hhd,Bool.eq_iff_iff]; simp_all; omega),trivial⟩,H⟩
 rintro - j49 w H
 refine Ax _ rfl ?_ ?_
 ·intro h1
  replace h1:=Bp h1
  refine Ag (Ai rfl rfl (Ab (Aa (A9 (Al (AB (v:=(.bool _)) rfl rfl rfl ?_))))))
  refine ⟨congrArg Value.bool (Eq.symm ?_),H.ext⟩
  rw [← Bool.not_eq_true]
  intro hR
  unfold BA at hR
  rw [Bool.and_eq_true] at hR
  obtain ⟨g1,g2,g3,-,g5,g6⟩:=MQ hR.1
  have hNN:=Jf g1
  have hz':=hz (by omega) (by omega)
  have:Og r z=true:=by unfold Og; rw [g1,decide_eq_true g2,decide_eq_true g3,decide_eq_true (show 0≤z by omega),decide_eq_true (show z≤16 by omega),decide_eq_true g6]; rfl
  rw [this] at h1; cases h1
 ·intro h1
  replace h1:=Bq h1
  unfold Og at h1
  simp only [Bool.and_eq_true,decide_eq_true_eq] at h1
  obtain ⟨⟨⟨⟨⟨g1,g2⟩,g3⟩,gz0⟩,gz16⟩,g6⟩:=h1
  have hNN:=Jf g1
  obtain rfl:z=r.N - 1:=hz (by omega) (by omega)
  obtain ⟨hh,hhN⟩:∃ hh:Nat,r.N - 1=hh:=⟨(r.N - 1).toNat,by omega⟩
  have hRB:BA r=(decide r.ids.Nodup && ((r.es.take r.ids.length).all (DA (r.N - 1)) && GU r)):=by
   unfold BA ID
   rw [g1,decide_eq_true g2,decide_eq_true g3,decide_eq_true gz16,decide_eq_true g6]
   simp
  rw [hhN] at hRB ⊢
  have RI:=RA.I
  have RE:=RA.E
  have hno:∀ (i:Nat) (e:Ed),i<r.ids.length→r.es[i]? = some e→DA (hh:Int) e=false→BA r=false:=fun i e hi he hw=>by
   rw [hRB,← Bool.not_eq_true,Bool.and_eq_true,Bool.and_eq_true,List.all_eq_true]
   rintro ⟨-,h9,-⟩
   have:=h9 e (List.mem_of_getElem? (by rw [List.getElem?_take,if_pos hi]; exact he))
   rw [hw] at this; cases this
  refine Av (Aa (Aq (Ag (Af rfl rfl (Ab (Aa (Au (Bi 649037107316853452440412134310116 (α:=Nat) (fun i=>[(5,.int .i64 (i:Int))]) (fun i w'=>(i≤r.ids.length∧(∀ (k j:Nat) (x y:Int),k<j→j<i→r.ids[k]? = some x→r.ids[j]? = some y→x≠y)∧∀ (j:Nat) (e:Ed),j<i→r.es[j]? = some e→DA (hh:Int) e=true)∧Ctx w0 [] w' [(b1,Bl 33 (AH r q))]) (fun i=>r.ids.length - i) 0 rfl ?_ ?_ ?_))))))))
  ·exact ⟨rfl,trivial⟩
  ·exact ⟨⟨Nat.zero_le _,fun k j x y _ h=>absurd h (Nat.not_lt_zero _),fun j e h=>absurd h (Nat.not_lt_zero _)⟩,H⟩
  ·clear H
   rintro i j5 w ⟨⟨hi,hbn,hbd⟩,H⟩
   refine Aq (Ag (Ad rfl rfl (Ad rfl rfl (AN rfl rfl rfl (Ab (Aa (Ax _ rfl ?_ ?_)))))))
   ·intro h2
    replace h2:=AF h2
    obtain ⟨xi,hxi⟩:=AC (l:=r.ids) (i:=i) (by omega)
    obtain ⟨e,he⟩:=AC (l:=r.es) (i:=i) (by omega)
    refine Av (Aa (Aq (Au (Aq (Ag (Af rfl rfl (Ab (Aa (Au (Bi 2361147212637803642948 (α:=Nat) (fun k=>[(6,.int .i64 (k:Int))]) (fun k w'=>(k≤i∧∀ (j:Nat) (x:Int),j<k→r.ids[j]? = some x→x≠xi)∧Ctx w0 [] w' [(b1,Bl 33 (AH r q))]) (fun k=>i - k) 0 rfl ?_ ?_ ?_))))))))))
    ·exact ⟨rfl,trivial⟩
    ·exact ⟨⟨Nat.zero_le _,fun j x h=>absurd h (Nat.not_lt_zero _)⟩,H⟩
    ·clear H
     rintro k j6 w ⟨⟨hk,hbk⟩,H⟩
     refine Aq (Ag (Ad rfl rfl (Ad rfl rfl (AN rfl rfl rfl (Ab (Aa (Ax _ rfl ?_ ?_)))))))
     ·intro h3
      replace h3:=AF h3
      obtain ⟨xk,hxk⟩:=AC (l:=r.ids) (i:=k) (by omega)
      refine Av (Aa (Aq (Au (DS (fun x=>x=_) B3 (by kernel_rfl) rfl ?_))))
      refine A6 rfl ED rfl (BZ rfl Fm rfl (by rintro _ rfl; exact H.drew) at0 rfl ?_)
      refine AM rfl rfl (BN RI rfl Be AY rfl rfl (by omega) (by omega) (by rfl) ?_)
      refine Cc rfl BK rfl (by rintro _ rfl; exact (((RI.ext0 H.drew.ext).fld hxk rfl (j:=0) rfl))) ?_
      refine A6 rfl ED rfl (BZ rfl Fm rfl (by rintro _ rfl; exact H.drew) at0 rfl ?_)
      refine AM rfl rfl (BN RI rfl Be AY rfl rfl (by omega) (by omega) (by rfl) ?_)
      refine Cc rfl BK rfl (by rintro _ rfl; exact (((RI.ext0 H.drew.ext).fld hxi rfl (j:=0) rfl))) ?_
      refine Tp rfl rfl rfl (BQ ?_)
      rintro _ rfl
      replace H:=H.drew
      refine Ax _ rfl ?_ ?_
      ·intro h4
       replace h4:=AF h4
       refine Ag (Ai rfl rfl (Ab (Aa (A9 (A4 (Al (Al (A4 (Al (A4 (Al (Al (A4 (Al (AB (v:=(.bool _)) rfl rfl rfl ?_)))))))))))))))
       refine ⟨congrArg Value.bool (Eq.symm ?_),H.ext⟩
       rw [hRB,decide_eq_false (fun h=>(QQ.1 h) k i xk xi (by omega) hxk hxi h4)]; rfl
      ·intro h4
       replace h4:=AG h4
       refine Av (A5 (Aa (Aw (Ad rfl rfl (Ap rfl rfl rfl (by omega) (by omega) ?_)))))
       refine Af rfl rfl (Ab (Aa ?_))
       refine ⟨k+1,rfl,⟨rfl,trivial⟩,⟨⟨by omega,fun j x hj hx=>?_⟩,H⟩,by omega⟩
       rcases Nat.lt_or_ge j k with h5 | h5
       ·exact hbk j x h5 hx
       ·obtain rfl:j=k:=by omega
        rw [hxk] at hx; cases hx
        exact h4
     ·intro h3
      replace h3:=AG h3
      obtain rfl:k=i:=by omega
      refine Bd (Aj (Aj (AD (Aa (Ag (Ah rfl DG rfl (Ah rfl BU rfl (AA rfl CI rfl H at0 rfl (Ad rfl rfl (AZ RE rfl Ce BC rfl rfl (by omega) (by omega) (by rfl) ?_))))))))))
      refine Cr _ rfl DX BC rfl rfl (((RE.ext0 H.ext).row he rfl)) ?_
      refine Bm rfl DH H ?_
      rintro b7 w - H
      refine BD rfl BC rfl rfl rfl (by exact Dk _) H at0 rfl ?_
      rintro w H
      refine Ab (Aa ?_)
      replace H:Ctx w0 [] _ [(b7,Bl 92 (Bv e)),(b1,Bl 33 (AH r q))]:=H
      refine Ag (B5 (α:=Unit) 649037107165737726114483394314240 (fun _=>[(108,.bool (!DA (hh:Int) e))]) (fun _ w'=>Ctx w0 [] w' [(b7,Bl 92 (Bv e)),(b1,Bl 33 (AH r q))]) rfl ?_ ?_)
      ·refine Ah rfl Dp rfl (AA rfl BH rfl H at0 rfl (Ad rfl rfl (CD rfl rfl rfl (Ak rfl rfl (A8 81 rfl ?_ ?_)))))
       ·intro h11
        replace h11:=AF h11
        refine Ae rfl (Ae rfl (Ae rfl (Ae rfl (Am rfl rfl (.bool _) rfl (Ak rfl rfl (Ae rfl (Ae rfl (Ae rfl (Ae rfl ?_)))))))))
        refine Ae rfl (Am rfl rfl (.bool _) rfl (Ak rfl rfl (Ae rfl (Ae rfl (Ae rfl (Am rfl rfl (.bool _) rfl (Ak rfl rfl (Ae rfl (Ae rfl ?_)))))))))
        refine Ae rfl (Am rfl rfl (.bool _) rfl (Ak rfl rfl (Ae rfl (Ae rfl (Ae rfl (Am rfl rfl (.bool _) rfl (Ab ?_)))))))
        exact ⟨rfl,(),rfl,⟨congrArg Value.bool (by unfold DA; rw [Bool.eq_iff_iff]; simp_all; done),trivial⟩,H⟩
       ·intro h12
        replace h12:=AG h12
        refine Ah rfl Dz rfl (AA rfl BH rfl H at0 rfl (Ad rfl rfl (CD rfl rfl rfl (A3 rfl rfl (.bool _) rfl (Ak rfl rfl (A8 87 rfl ?_ ?_))))))
        ·intro h13
         replace h13:=AF h13
         refine Ae rfl (Ae rfl (Ae rfl (Ae rfl (Ae rfl (Am rfl rfl (.bool _) rfl (Ak rfl rfl (Ae rfl (Ae rfl (Ae rfl ?_)))))))))
         refine Am rfl rfl (.bool _) rfl (Ak rfl rfl (Ae rfl (Ae rfl (Ae rfl (Am rfl rfl (.bool _) rfl (Ak rfl rfl (Ae rfl (Ae rfl (Ae rfl ?_)))))))))
         refine Am rfl rfl (.bool _) rfl (Ab ?_)
         exact ⟨rfl,(),rfl,⟨congrArg Value.bool (by unfold DA; rw [Bool.eq_iff_iff]; simp_all; done),trivial⟩,H⟩
        ·intro h14
         replace h14:=AG h14
         refine Ah rfl Dp rfl (AA rfl BH rfl H at0 rfl (Ah rfl Dz rfl (AA rfl BH rfl H at0 rfl (BX rfl rfl rfl (A3 rfl rfl (.bool _) rfl (Ak rfl rfl (A8 94 rfl ?_ ?_)))))))
         ·intro h15
          replace h15:=AF h15
          refine Ae rfl (Ae rfl (Ae rfl (Am rfl rfl (.bool _) rfl (Ak rfl rfl (Ae rfl (Ae rfl (Ae rfl (Am rfl rfl (.bool _) rfl (Ak rfl rfl ?_)))))))))
          refine Ae rfl (Ae rfl (Ae rfl (Am rfl rfl (.bool _) rfl (Ab ?_))))
          exact ⟨rfl,(),rfl,⟨congrArg Value.bool (by unfold DA; rw [Bool.eq_iff_iff]; simp_all; done),trivial⟩,H⟩
         ·intro h16
          replace h16:=AG h16
          refine Ah rfl CU rfl (AA rfl Bw rfl H at0 rfl (AN rfl rfl rfl (A3 rfl rfl (.bool _) rfl (Ak rfl rfl (A8 99 rfl ?_ ?_)))))
          ·intro h17
           replace h17:=AF h17
           refine Ae rfl (Ae rfl (Ae rfl (Am rfl rfl (.bool _) rfl (Ak rfl rfl (Ae rfl (Ae rfl (Ae rfl (Am rfl rfl (.bool _) rfl (Ab ?_)))))))))
           exact ⟨rfl,(),rfl,⟨congrArg Value.bool (by unfold DA; rw [Bool.eq_iff_iff]; simp_all; done),trivial⟩,H⟩
          ·intro h18
           replace h18:=AG h18
           refine Ah rfl Dq rfl (AA rfl Bw rfl H at0 rfl (AN rfl rfl rfl (A3 rfl rfl (.bool _) rfl (Ak rfl rfl (A8 104 rfl ?_ ?_)))))
           ·intro h19
            replace h19:=AF h19
            refine Ae rfl (Ae rfl (Ae rfl (Am rfl rfl (.bool _) rfl (Ab ?_))))
            exact ⟨rfl,(),rfl,⟨congrArg Value.bool (by unfold DA; rw [Bool.eq_iff_iff]; simp_all; done),trivial⟩,H⟩
           ·intro h20
            replace h20:=AG h20
            refine Ah rfl Dq rfl (AA rfl Bw rfl H at0 rfl (C0 rfl rfl rfl (A3 rfl rfl (.bool _) rfl (Ab ?_))))
            exact ⟨rfl,(),rfl,⟨congrArg Value.bool (by unfold DA; rw [Bool.eq_iff_iff]; simp_all; done),trivial⟩,H⟩
      rintro - j108 w H
      refine Ax _ rfl ?_ ?_
      ·intro h4
       replace h4:=Bp h4
       refine Ag (Ai rfl rfl (Ab (Aa (A9 (A4 (Al (Al (A4 (Al (AB (v:=(.bool _)) rfl rfl rfl ?_))))))))))
       exact ⟨congrArg Value.bool (hno k e (by omega) he h4).symm,H.ext⟩
      ·intro h4
       replace h4:=Bq h4
       refine Av (A5 (Aa (Aw (Ad rfl rfl (Ap rfl rfl rfl (by omega) (by omega) ?_)))))
       refine Af rfl rfl (Ab (Aa ?_))
       refine ⟨k+1,rfl,⟨rfl,trivial⟩,⟨⟨by omega,fun k' j x y hkj hj hx hy=>?_,fun j e' hj he'=>?_⟩,H.tail⟩,by omega⟩
       ·rcases Nat.lt_or_ge j k with h5 | h5
        ·exact hbn k' j x y hkj h5 hx hy
        ·obtain rfl:j=k:=by omega
         rw [hxi] at hy; cases hy
         exact hbk k' x hkj hx
       ·rcases Nat.lt_or_ge j k with h5 | h5
        ·exact hbd j e' h5 he'
        ·obtain rfl:j=k:=by omega
         rw [he] at he'; cases he'
         exact h4
   ·intro h2
    replace h2:=AG h2
    obtain rfl:i=r.ids.length:=by omega
    have hnd:r.ids.Nodup:=QQ.2 fun k j x y hkj hx hy=>hbn k j x y hkj (CB hy) hx hy
    have hall:(r.es.take r.ids.length).all (DA (r.N - 1))=true:=List.all_eq_true.2 fun e he=>by
     obtain ⟨k,hk⟩:=List.mem_iff_getElem?.1 he
     rw [List.getElem?_take] at hk
     split at hk
     ·rename_i h7; rw [hhN]; exact hbd k e h7 hk
     ·cases hk
    obtain ⟨rest,hrest⟩:∃ rest,rest=r.es.drop r.ids.length:=⟨_,rfl⟩
    have hrl:rest.length=r.es.length - r.ids.length:=by rw [hrest,List.length_drop]
    have hRB2:BA r=GU r:=by rw [hRB,decide_eq_true hnd,← hhN,hall,Bool.true_and,Bool.true_and]
    rw [hRB2]
    unfold GU
    rw [← hrest,hhN]
    refine Bd (Aj (Aj (AD (Aa (Ag (Ah rfl DG rfl (Ah rfl BU rfl (AA rfl CI rfl H at0 rfl (Ad rfl rfl (EU rfl Ce BC rfl rfl (by omega) (by omega) ?_))))))))))
    refine AJ rfl rfl (Ab (Aa (Aq (Ag (Ah rfl IX rfl (AA rfl Hf rfl H at0 rfl (Ab (Aa (Ax _ rfl ?_ ?_)))))))))
    ·intro h3
     refine Ag (An rfl rfl (AU rfl Ce rfl (BX rfl rfl rfl (Ai rfl rfl (Ab (Aa (A9 (Al (AB (v:=(.bool _)) rfl rfl rfl ?_)))))))))
     exact ⟨congrArg Value.bool (by rw [if_pos h3,Bool.eq_iff_iff,decide_eq_true_eq,decide_eq_true_eq]; omega),H.ext⟩
    ·intro h3
     rw [if_neg (by simp [h3])]
     refine Av (Aa (Aq (Ag (An rfl rfl (AU rfl Ce rfl (Ad rfl rfl (Cf rfl rfl rfl (by omega) (by omega) ?_)))))))
     refine CH rfl rfl rfl (Ab (Aa (Ax _ rfl ?_ ?_)))
     ·intro h4
      replace h4:=CO h4
      refine Ag (Ai rfl rfl (Ab (Aa (A9 (Al (AB (v:=(.bool _)) rfl rfl rfl ?_))))))
      exact ⟨congrArg Value.bool (by rw [decide_eq_false (by omega)]; rfl),H.ext⟩
     ·intro h4
      replace h4:=CP h4
      rw [decide_eq_true (show (rest.length:Int)=2*(hh:Int) by omega),Bool.true_and,Int.toNat_natCast]
      have RR:Rd w0 (J5 q.aE q.cE r.ids.length 4) 4 Bv rest:=by rw [hrest]; exact RA.E.cut _ _ hEc
      refine Av (Aa (Aq (Ag (Af rfl rfl (Ab (Aa (Au (Bi 5846006549302344024882180676898671165659244662276 (α:=Nat) (fun i=>[(9,.int .i64 (i:Int))]) (fun i w'=>(i≤hh∧∀ b,b<i→F2 (hh:Int) rest b=true)∧Ctx w0 [] w' [(b1,Bl 33 (AH r q))]) (fun i=>hh - i) 0 rfl ?_ ?_ ?_))))))))
      ·exact ⟨rfl,trivial⟩
      ·exact ⟨⟨Nat.zero_le _,fun b h=>absurd h (Nat.not_lt_zero _)⟩,H⟩
      ·clear H
       rintro i j9 w ⟨⟨hi,hbf⟩,H⟩
       refine Aq (Ag (Ad rfl rfl (Ad rfl rfl (AN rfl rfl rfl (Ab (Aa (Ax _ rfl ?_ ?_)))))))
       ·intro h5
        replace h5:=AF h5
        obtain ⟨x,hxe⟩:=AC (l:=rest) (i:=2*i) (by omega)
        obtain ⟨y,hye⟩:=AC (l:=rest) (i:=2*i+1) (by omega)
        have hat:F2 (hh:Int) rest i=(((decide (x.f=(hh:Int)) && decide (x.t=(i:Int))) && decide (x.cost=0)) && decide (y=⟨i,hh,4503599627370496,0⟩)):=by
         unfold F2
         rw [Bn hxe,Bn hye]
         congr 1
         rw [Bool.eq_iff_iff,Bool.and_eq_true,Bool.and_eq_true,decide_eq_true_eq,decide_eq_true_eq,decide_eq_true_eq,decide_eq_true_eq]
         exact Uc
        have hidx:(2*(i:Int)).toNat=2*i:=by omega
        have hidx2:(2*(i:Int)+1).toNat=2*i+1:=by omega
        have hnoH:F2 (hh:Int) rest i=false→(List.range hh).all (F2 (hh:Int) rest)=false:=fun h=>by
         rw [← Bool.not_eq_true,List.all_eq_true]
         intro h9
         have:=h9 i (List.mem_range.2 (by omega))
         rw [h] at this; cases this
        refine Av (Aa (Aq (Au (Ag (An rfl rfl (Ad rfl rfl (Cf rfl rfl rfl (by omega) (by omega) ?_)))))))
        refine AZ RR rfl Ce BC rfl rfl (by omega) (by omega) (by omega) ?_
        rw [hidx]
        refine Cr _ rfl DX BC rfl rfl (((RR.ext0 H.ext).row hxe rfl)) ?_
        refine Bm rfl DH H ?_
        rintro b10 w - H
        refine BD rfl BC rfl rfl rfl (by exact Dk _) H at0 rfl ?_
        rintro w H
        refine Ab (Aa (Ag (An rfl rfl (Ad rfl rfl (Cf rfl rfl rfl (by omega) (by omega) ?_)))))
        refine Ap rfl rfl rfl (by omega) (by omega) ?_
        refine AZ RR rfl Ce BC rfl rfl (by omega) (by omega) (by omega) ?_
        rw [hidx2]
        refine Cr _ rfl DX BC rfl rfl (((RR.ext0 H.ext).row hye rfl)) ?_
        refine Bm rfl DH H ?_
        rintro b11 w - H
        refine BD rfl BC rfl rfl rfl (by exact Dk _) H at0 rfl ?_
        rintro w H
        refine Ab (Aa ?_)
        replace H:Ctx w0 [] _ [(b11,Bl 92 (Bv y)),(b10,Bl 92 (Bv x)),(b1,Bl 33 (AH r q))]:=H
        refine Ag (B5 (α:=Unit) 5846005155527036764650792984882740038101136048128 (fun _=>[(161,.bool (!F2 (hh:Int) rest i))]) (fun _ w'=>Ctx w0 [] w' [(b11,Bl 92 (Bv y)),(b10,Bl 92 (Bv x)),(b1,Bl 33 (AH r q))]) rfl ?_ ?_)
        ·refine Ah rfl Dp rfl (AA rfl BH rfl H at1 rfl (Ad rfl rfl (CH rfl rfl rfl (Ak rfl rfl (A8 144 rfl ?_ ?_)))))
         ·intro h21
          replace h21:=CO h21
          refine Ae rfl (Ae rfl (Ae rfl (Ae rfl (Am rfl rfl (.bool _) rfl (Ak rfl rfl (Ae rfl (Ae rfl (Ae rfl (Am rfl rfl (.bool _) rfl ?_)))))))))
          refine Ak rfl rfl (Ae rfl (Ae rfl (Ae rfl (Ae rfl (Ae rfl (Am rfl rfl (.bool _) rfl (Ab ?_)))))))
          exact ⟨rfl,(),rfl,⟨congrArg Value.bool (by rw [hat,Bool.eq_iff_iff]; simp_all; done),trivial⟩,H⟩
         ·intro h22
          replace h22:=CP h22
          refine Ah rfl Dz rfl (AA rfl BH rfl H at1 rfl (Ad rfl rfl (CH rfl rfl rfl (A3 rfl rfl (.bool _) rfl (Ak rfl rfl (A8 150 rfl ?_ ?_))))))
          ·intro h23
           replace h23:=CO h23
           refine Ae rfl (Ae rfl (Ae rfl (Am rfl rfl (.bool _) rfl (Ak rfl rfl (Ae rfl (Ae rfl (Ae rfl (Ae rfl (Ae rfl ?_)))))))))
           refine Am rfl rfl (.bool _) rfl (Ab ?_)
           exact ⟨rfl,(),rfl,⟨congrArg Value.bool (by rw [hat,Bool.eq_iff_iff]; simp_all; done),trivial⟩,H⟩
          ·intro h24
           replace h24:=CP h24
           refine Ah rfl Dq rfl (AA rfl Bw rfl H at1 rfl (CH rfl rfl rfl (A3 rfl rfl (.bool _) rfl (Ak rfl rfl (A8 155 rfl ?_ ?_)))))
           ·intro h25
            replace h25:=CO h25
            refine Ae rfl (Ae rfl (Ae rfl (Ae rfl (Ae rfl (Am rfl rfl (.bool _) rfl (Ab ?_))))))
            exact ⟨rfl,(),rfl,⟨congrArg Value.bool (by rw [hat,Bool.eq_iff_iff]; simp_all; done),trivial⟩,H⟩
           ·intro h26
            replace h26:=CP h26
            refine Bh rfl DX BC rfl H at0 rfl (Ad rfl rfl (Ad rfl rfl (CC (Bv ⟨i,hh,4503599627370496,0⟩) rfl Mz DH (by kernel_rfl) ?_)))
            refine Aaw (ks:=[true,true,true,true]) (xs:=Bv y) (ys:=Bv ⟨i,hh,4503599627370496,0⟩) (decide (y=⟨i,hh,4503599627370496,0⟩)) rfl (by kernel_rfl) rfl rfl ⟨rfl,rfl,rfl,rfl,trivial⟩ (Kj _ _) ?_
            refine A3 rfl rfl (.bool _) rfl (Ab ?_)
            exact ⟨rfl,(),rfl,⟨congrArg Value.bool (by rw [hat,Bool.eq_iff_iff]; simp_all; done),trivial⟩,H⟩
        rintro - j161 w H
        refine Ax _ rfl ?_ ?_
        ·intro h6
         replace h6:=Bp h6
         refine Ag (Ai rfl rfl (Ab (Aa (A9 (A4 (Al (Al (A4 (Al (AB (v:=(.bool _)) rfl rfl rfl ?_))))))))))
         exact ⟨congrArg Value.bool (hnoH h6).symm,H.ext⟩
        ·intro h6
         replace h6:=Bq h6
         refine Av (A5 (Aa (Aw (Ad rfl rfl (Ap rfl rfl rfl (by omega) (by omega) ?_)))))
         refine Af rfl rfl (Ab (Aa ?_))
         refine ⟨i+1,rfl,⟨rfl,trivial⟩,⟨⟨by omega,fun b hb=>?_⟩,H.tail.tail⟩,by omega⟩
         rcases Nat.lt_or_ge b i with h8 | h8
         ·exact hbf b h8
         ·obtain rfl:b=i:=by omega
          exact h6
       ·intro h5
        replace h5:=AG h5
        obtain rfl:i=hh:=by omega
        refine Bd (Aj (Aj (AD (Aa (Ag (Ai rfl rfl (Ab (Aa (A9 (AB (v:=(.bool _)) rfl rfl rfl ?_))))))))))
        exact ⟨congrArg Value.bool (List.all_eq_true.2 fun b hb=>hbf b (List.mem_range.1 hb)).symm,H.ext⟩
end Go.Proofs.YtapphbmlkdhnmaaGreat

/- What a right round says of a due, and of a bank. -/
namespace Go.Proofs.YtapphbmlkdhnmaaGreat
open Go.GV
attribute [local irreducible] A2 W Wq Wt

/-- What a right round says. -/
structure WR (r:Rnd):Prop where
 chk:Ea r.N r.es r.fl r.pot=true
 day:0≤r.day
 d64:r.ids.length≤64
 nd:r.ids.Nodup
 N1:1≤r.N
 N17:r.N≤17
 de:r.ids.length≤r.es.length
 e200:r.es.length≤200
 len:r.fl.length=r.es.length
 pot:(r.pot.length:Int)=r.N
 wi:B1 r.N r.es r.fl=true
 due:∀ (i:Nat) (e:Ed),i<r.ids.length→r.es[i]? = some e→DA (r.N - 1) e=true
 rest:GU r=true
theorem Jv {r:Rnd} (h:BA r=true):WR r:=by
 unfold BA at h
 rw [Bool.and_eq_true,Bool.and_eq_true,List.all_eq_true] at h
 obtain ⟨h1,h2,h3⟩:=h
 obtain ⟨g1,g2,g3,g4,g5,g6⟩:=MQ h1
 obtain ⟨k1,-,k3,k4,k5⟩:=Jf g1
 exact ⟨g1,g2,g3,g4,k1,by omega,g6,k3,k4,k5,(Fq (Gg.1 g1).1).1,fun i e hi he=>h2 e (List.mem_of_getElem? (by rw [List.getElem?_take,if_pos hi]; exact he)),h3⟩
theorem Pw {h:Int} {e:Ed} (hw:DA h e=true):e.f<h∧e.t<h∧e.f≠e.t∧1≤e.cap ∧ -1000≤e.cost∧e.cost ≤ -1:=by
 unfold DA at hw
 simp only [Bool.and_eq_true,decide_eq_true_eq,Bool.not_eq_true',decide_eq_false_iff_not] at hw
 exact ⟨hw.1.1.1.1.1,hw.1.1.1.1.2,hw.1.1.1.2,hw.1.1.2,hw.1.2,hw.2⟩
/-- The first place of a number. -/
def QR (ids:List Int) (x:Int):Option Nat:=ids.findIdx? fun y=>decide (y=x)
theorem Vu {ids:List Int} {x:Int} {i:Nat} (h:ids[i]? = some x) (hb:∀ (k:Nat) (y:Int),k<i→ids[k]? = some y→y≠x):QR ids x=some i:=by
 obtain ⟨h1,h2⟩:=List.getElem?_eq_some_iff.1 h
 unfold QR
 rw [List.findIdx?_eq_some_iff_getElem]
 exact ⟨h1,decide_eq_true h2,fun j hj=>by
  have:=hb j _ hj (List.getElem?_eq_getElem (by omega))
  simpa using this⟩
theorem Vv {ids:List Int} {x:Int} (hb:∀ (k:Nat) (y:Int),ids[k]? = some y→y≠x):QR ids x=none:=by
 unfold QR
 rw [List.findIdx?_eq_none_iff]
 intro y hy
 obtain ⟨k,hk⟩:=List.mem_iff_getElem?.1 hy
 exact decide_eq_false (hb k y hk)
def idxI (o:Option Nat):Int:=match o with | some i=>(i:Int) | none => -1
theorem XJ (a:Option Addr) (n c:Nat) (ids:List Int) (x:Int) (w:World) (R:Rd w a 1 U1 ids) (hn:ids.length=n) (hn2:n≤1000000):Ret Tryz.prog 97 #[.slice a n c,.int .u64 x] w fun v w'=>v = .int .i64 (idxI (QR ids x))∧Ext [] w w':=by
 subst hn
 obtain ⟨w0,rfl⟩:∃ w0,w0=w:=⟨_,rfl⟩
 have H:=Ctx.start w0 []
 refine A1 (fn:=Tryz.f97) Tryz.func97 rfl [.slice a ids.length c,.int .u64 x] rfl (by kernel_rfl) ?_
 refine Ag (Af rfl rfl (Ab (Aa (Aq (Ag (An rfl rfl (AU rfl Be rfl (Ad rfl rfl (Ab (Aa (Au ?_)))))))))))
 refine Bi 524080 (α:=Nat) (fun i=>[(8,.int .i64 (i:Int))]) (fun i w'=>i≤ids.length∧Ctx w0 [] w' []∧∀ (k:Nat) (y:Int),k<i→ids[k]? = some y→y≠x) (fun i=>ids.length - i) 0 rfl ?_ ?_ ?_
 ·exact ⟨rfl,trivial⟩
 ·exact ⟨Nat.zero_le _,H,fun j e h=>absurd h (Nat.not_lt_zero _)⟩
 ·clear H
  rintro i j w ⟨hi,H,hb⟩
  refine Ag (AN rfl rfl rfl (Ab (Aa (Aq (Ax _ rfl ?_ ?_)))))
  ·intro h1
   replace h1:=AF h1
   obtain ⟨y,hy⟩:=AC (l:=ids) (i:=i) (by omega)
   have R1:=R.ext0 H.ext
   refine Av (Aa (Aq (Au (Ag (Ad rfl rfl (Af rfl rfl (Ab (Aa (Ag (Ad rfl rfl (An rfl rfl ?_)))))))))))
   refine Ad rfl rfl (AZ R1 rfl Be AY rfl rfl (by omega) (by omega) (by rfl) ?_)
   refine AX rfl BK rfl ((R1.fld hy rfl (j:=0) rfl)) ?_
   refine BX rfl rfl rfl (Ab (Aa (Ax _ rfl ?_ ?_)))
   ·intro h2
    replace h2:=AF h2
    refine Ag (Ad rfl rfl (Af rfl rfl (Ab (Aa (A9 (A4 (Al (Al (A4 (Al (AB (v:=(.int _ _)) rfl rfl rfl ?_)))))))))))
    exact ⟨congrArg (Value.int .i64) (by rw [Vu (by rw [hy,h2]) hb]; rfl),H.ext⟩
   ·intro h2
    replace h2:=AG h2
    refine Av (A5 (Aa (Aw (Ap rfl rfl rfl (by omega) (by omega) ?_))))
    refine Ad rfl rfl (Ab (Aa ?_))
    refine ⟨i+1,rfl,⟨rfl,trivial⟩,⟨by omega,H,fun k z hk hz=>?_⟩,by omega⟩
    rcases Nat.lt_or_ge k i with h3 | h3
    ·exact hb k z h3 hz
    ·obtain rfl:k=i:=by omega
     rw [hy] at hz; cases hz
     exact fun h=>h2 h.symm
  ·intro h1
   replace h1:=AG h1
   refine Bd (Aj (Aj (AD (Aa (Ag (Af rfl rfl (Ab (Aa (A9 (AB (v:=(.int _ _)) rfl rfl rfl ?_))))))))))
   exact ⟨congrArg (Value.int .i64) (by rw [Vv fun k y hk=>hb k y (by have:=CB hk; omega) hk]; rfl),H.ext⟩
/-- What was paid of a due, of how much, and the code. -/
def Lf (r:Rnd) (x:Int):Int × Int × Int:=if BA r=true then (match QR r.ids x with | some i=>(r.fl.getD i 0,(r.es.getD i e0).cap,0) | none=>(0,0,4)) else (0,0,1)
abbrev tri (p:Int × Int × Int):Value := .tuple #[.int .i64 p.1,.int .i64 p.2.1,.int .i64 p.2.2]
set_option maxRecDepth 20000 in
theorem QS (r:Rnd) (q:RSl) (x:Int) (w:World) (RA:RAt w r q) (hEc:r.es.length≤q.cE) (hr:RBnd r):Ret Tryz.prog 39 #[.agg (AH r q).toArray,.int .u64 x] w fun v w'=>v=tri (Lf r x)∧Ext [] w w':=by
 obtain ⟨w0,rfl⟩:∃ w0,w0=w:=⟨_,rfl⟩
 have H:=Ctx.start w0 []
 have hfl:=hr.fl
 obtain ⟨wr,hwr⟩:∃ wr,wr=BA r:=⟨_,rfl⟩
 refine A1 (fn:=Tryz.f39) Tryz.func39 rfl [.agg (AH r q).toArray,.int .u64 x] rfl (by kernel_rfl) ?_
 refine Ag (Bs rfl (AH r q) (.agg _) rfl rfl H ?_)
 rintro b2 w - H
 refine Af rfl rfl (Af rfl rfl (Af rfl rfl (Ab (Aa (Aq (Ag (Bh rfl CQ C2 rfl H at0 rfl (Ao rfl Qp (Ht r q _ (RA.ext0 H.ext) hEc hr) rfl ?_))))))))
 rintro v w ⟨rfl,hx9⟩
 replace H:=H.call hx9
 rw [← hwr]
 refine Bu rfl rfl (Ab (Aa (Ax _ rfl ?_ ?_)))
 ·intro h1
  replace h1:=Bp h1
  refine Ag (Af rfl rfl (Af rfl rfl (Af rfl rfl (Ab (Aa (A9 (Al (DR (v1:=(.int _ _)) (v2:=(.int _ _)) (v3:=(.int _ _)) rfl rfl rfl rfl rfl ?_))))))))
  have h1':BA r=false:=by rw [← hwr]; simpa using h1
  exact ⟨by unfold Lf; rw [if_neg (by rw [h1']; decide)],H.ext⟩
 ·intro h1
  replace h1:=Bq h1
  have h1':BA r=true:=by rw [← hwr]; simpa using h1
  have WW:=Jv h1'
  have hde:=WW.de
  have hle:=WW.len
  refine Av (Aa (Ag (Ah rfl ED rfl (AA rfl Fm rfl H at0 rfl (Ad rfl rfl (Ao rfl ca_97 (XJ q.aI _ q.cI r.ids x _ (RA.I.ext0 H.ext) rfl hr.ids) rfl ?_))))))
  rintro v w ⟨rfl,hx14⟩
  replace H:=H.call hx14
  refine Af rfl rfl (Ab (Aa (Aq ?_)))
  have hP:Lf r x=(match QR r.ids x with | some i=>(r.fl.getD i 0,(r.es.getD i e0).cap,0) | none=>(0,0,4)):=by unfold Lf; rw [if_pos h1']
  rw [hP]
  rcases hix:QR r.ids x with _ | i
  ·skip
   refine Ag (Ad rfl rfl (AN rfl rfl rfl (Ab (Aa (CM rfl (Ag (Af rfl rfl (Af rfl rfl (Af rfl rfl (Ab (Aa ?_)))))))))))
   refine A9 (Al (DR (v1:=(.int _ _)) (v2:=(.int _ _)) (v3:=(.int _ _)) rfl rfl rfl rfl rfl ?_))
   exact ⟨rfl,H.ext⟩
  ·skip
   obtain ⟨hil,-⟩:=(List.findIdx?_eq_some_iff_getElem.1 hix)
   obtain ⟨e,he⟩:=AC (l:=r.es) (i:=i) (by omega)
   obtain ⟨y,hy⟩:=AC (l:=r.fl) (i:=i) (by omega)
   have RE:=RA.E
   have RF:=RA.F
   refine Ag (Ad rfl rfl (AN rfl rfl rfl ?_))
   rw [show decide (idxI (some i)<0)=false from decide_eq_false (by show ¬ ((i:Int)<0); omega)]
   refine Ab (Aa (Fg rfl (Av (Aa (DS (fun x=>x=_) B3 (by kernel_rfl) rfl ?_)))))
   refine A6 rfl Ep rfl (A6 rfl Fp rfl (BZ rfl BF rfl (by rintro _ rfl; exact H.drew) at0 rfl ?_))
   refine AM rfl rfl (BN (i:=(i:Int)) RF rfl AR B2 rfl rfl (by omega) (by omega) (by rfl) ?_)
   refine Cc rfl Bw rfl (by rintro _ rfl; exact (((RF.ext0 H.drew.ext).fld hy rfl (j:=0) rfl))) ?_
   refine A6 rfl DG rfl (A6 rfl BU rfl (BZ rfl CI rfl (by rintro _ rfl; exact H.drew) at0 rfl ?_))
   refine AM rfl rfl (BN (i:=(i:Int)) RE rfl Ce BC rfl rfl (by omega) (by omega) (by rfl) ?_)
   refine A6 rfl CU rfl (Cc rfl Bw rfl (by rintro _ rfl; exact (((RE.ext0 H.drew.ext).fld he rfl (j:=2) rfl))) ?_)
   refine Co rfl rfl (Co rfl rfl (Co rfl rfl (BQ ?_)))
   rintro _ rfl
   replace H:=H.drew
   refine A9 (DR (v1:=(.int _ _)) (v2:=(.int _ _)) (v3:=(.int _ _)) rfl rfl rfl rfl rfl ?_)
   exact ⟨by dsimp only; rw [Bn he,Bn hy],H.ext⟩
end Go.Proofs.YtapphbmlkdhnmaaGreat

/- What a right round says of a bank, and what it is worth. -/
namespace Go.Proofs.YtapphbmlkdhnmaaGreat
open Go.GV
attribute [local irreducible] A2 W Wq Wt

/-- A sum over the first dues. -/
def GW (r:Rnd) (f:Ed→Int→Int) (n:Nat):Int:=Bx (fun i=>f (r.es.getD i e0) (r.fl.getD i 0)) n
theorem Oh {r:Rnd} {f:Ed→Int→Int} {i:Nat} {e:Ed} {x:Int} (he:r.es[i]? = some e) (hx:r.fl[i]? = some x):GW r f (i+1)=GW r f i+f e x:=by
 unfold GW
 show _+f (r.es.getD i e0) (r.fl.getD i 0)=_
 rw [Bn he,Bn hx]
def E9:Nat→List Nat
 | 3=>[2] | 4=>[2,3] | 6=>[2,3,4,5] | 7=>[2,3,4,5,6] | 9=>[8] | 10=>[8,9] | 12=>[8,9,10,11] | 13=>[8,9,10,11,12]
 | 14=>[1,2,3,4,5,6,7,8,9,10,11,12,13] | 15=>[0,1,2,3,4,5,6,7,8,9,10,11,12,13,14] | 16=>[0,1,2,3,4,5,6,7,8,9,10,11,12,13,14,15]
 | _=>[]
def Adz (fid:FuncId) (cl:List Value) (b2:Nat) (r:Rnd) (q:RSl) (i:Nat) (e:Ed) (x s y:Int):Nat→Value
 | 0 => .int .i64 s | 1 => .func (.func fid) #[] cl.toArray | 2 => .pointer (some ⟨b2,4,none⟩) | 3 => .pointer (some ⟨b2,5,none⟩) | 4 => .slice q.aE r.es.length q.cE
 | 5 => .int .i64 (i:Int) | 6 => .pointer (some ⟨(adr q.aE).block,(adr q.aE).off+i*4,none⟩) | 7 => .agg (Bv e).toArray | 8 => .pointer (some ⟨b2,6,none⟩) | 9 => .pointer (some ⟨b2,6,none⟩)
 | 10 => .slice q.aF r.fl.length q.cF | 11 => .int .i64 (i:Int) | 12 => .pointer (some ⟨(adr q.aF).block,(adr q.aF).off+i*1,none⟩) | 13 => .int .i64 x | 14 => .int .i64 y
 | _ => .int .i64 (s+y)
set_option maxRecDepth 20000 in
theorem MR (r:Rnd) (q:RSl) (fid:FuncId) (cl:List Value) (f:Ed→Int→Int) (w:World) (RA:RAt w r q) (hr:RBnd r) (hde:r.ids.length≤r.es.length) (hle:r.fl.length=r.es.length) (hfc:A0 Tryz.prog fid=true)
  (hf:∀ (i:Nat) (e:Ed) (x:Int) (w':World),i<r.ids.length→r.es[i]? = some e→r.fl[i]? = some x→Ext [] w w'→Ret Tryz.prog fid (.agg (Bv e).toArray :: .int .i64 x::cl).toArray w' fun v w''=>v = .int .i64 (f e x)∧Ext [] w' w'')
  (hB:∀ k,k≤r.ids.length → -4611686018427387904≤GW r f k∧GW r f k≤4611686018427387904) :
  Ret Tryz.prog 100 #[.agg (AH r q).toArray,.func (.func fid) #[] cl.toArray] w fun v w'=>v = .int .i64 (GW r f r.ids.length)∧Ext [] w w':=by
 obtain ⟨w0,rfl⟩:∃ w0,w0=w:=⟨_,rfl⟩
 have H:=Ctx.start w0 []
 have hfl:=hr.fl
 have hil:=hr.ids
 refine A1 (fn:=Tryz.f100) Tryz.func100 rfl [.agg (AH r q).toArray,.func (.func fid) #[] cl.toArray] rfl (by kernel_rfl) ?_
 have RE:=RA.E
 have RF:=RA.F
 refine Ag (Bs rfl (AH r q) (.agg _) rfl rfl H ?_)
 rintro b2 w - H
 refine Af rfl rfl (Ab (Aa (Aq (Ag (Ah rfl ED rfl (AA rfl Fm rfl H at0 rfl (AU rfl Be rfl (Ad rfl rfl (Ab (Aa (Au ?_)))))))))))
 refine Bi 536870448 (α:=Nat) (fun i=>[(9,.int .i64 (i:Int)),(4,.int .i64 (GW r f i))]) (fun i w'=>i≤r.ids.length∧Ctx w0 [] w' [(b2,Bl 33 (AH r q))]) (fun i=>r.ids.length - i) 0 rfl ?_ ?_ ?_
 ·exact ⟨rfl,rfl,trivial⟩
 ·exact ⟨Nat.zero_le _,H⟩
 ·clear H
  rintro i j w ⟨hi,H⟩
  refine Ag (AN rfl rfl rfl (Ab (Aa (Aq (Ax _ rfl ?_ ?_)))))
  ·intro h1
   replace h1:=AF h1
   obtain ⟨e,he⟩:=AC (l:=r.es) (i:=i) (by omega)
   obtain ⟨x,hxx⟩:=AC (l:=r.fl) (i:=i) (by omega)
   have hst:=Oh (f:=f) he hxx
   have hb1:=hB i (by omega)
   have hb2:=hB (i+1) (by omega)
   rw [hst] at hb2
   obtain ⟨s,hs⟩:∃ s,s=GW r f i:=⟨_,rfl⟩
   obtain ⟨y,hy⟩:∃ y,y=f e x:=⟨_,rfl⟩
   rw [← hs,← hy] at hb2 hst
   rw [← hs] at hb1 ⊢
   refine Av (Aa (Aq (Au (Ag (Ad rfl rfl (Af rfl rfl (Ab (Aa (OQ 268431376 (α:=Unit) (fun _=>[(4,.int .i64 (s+y))]) (fun _ w'=>Ctx w0 [] w' [(b2,Bl 33 (AH r q))]) rfl ?_ ?_)))))))))
   ·skip
    have hb2:=H.get at0
    refine YK (n:=16) (anc:=E9) (fun i=>12+i) (Adz fid cl b2 r q i e x s y) (show Tryz.prog.follows .mixedOrders=true by kernel_rfl) rfl (by kernel_rfl) ?_ (fun i j _ _ h=>by have h:12+i=12+j:=h; omega) ?_ ?_
    ·intro k hk
     have:k=0∨k=1∨k=2∨k=3∨k=4∨k=5∨k=6∨k=7∨k=8∨k=9∨k=10∨k=11∨k=12∨k=13∨k=14∨k=15:=by omega
     simp [E9]
     omega
    ·intro m o e' w' hm ho hold hsl hx
     have hin:∀ t:Nat,t<12→∀ j,j<16→t≠12+j:=fun t ht j hj=>by omega
     have g1:e'.g 1 = .func (.func fid) #[] cl.toArray:=(hold 1 (hin 1 (by omega))).trans rfl
     have g2:e'.g 2=ptr b2:=(hold 2 (hin 2 (by omega))).trans rfl
     have g4:e'.g 4 = .int .i64 s:=(hold 4 (hin 4 (by omega))).trans rfl
     have g5:e'.g 5 = .int .i64 (i:Int):=(hold 5 (hin 5 (by omega))).trans rfl
     have hx0:Ext [] w w':=(Ext.drew [] w).trans hx
     have hc:w'.heap[b2]? = some (Bl 33 (AH r q)):=hx0.to hb2 (by simp)
     have hcs:m=0∨m=1∨m=2∨m=3∨m=4∨m=5∨m=6∨m=7∨m=8∨m=9∨m=10∨m=11∨m=12∨m=13∨m=14∨m=15:=by omega
     rcases hcs with rfl | rfl | rfl | rfl | rfl | rfl | rfl | rfl | rfl | rfl | rfl | rfl | rfl | rfl | rfl | rfl
     ·cases Option.some.inj ho
      exact Cd rfl _ g4 (Ab ⟨.refl _ _,rfl⟩)
     ·cases Option.some.inj ho
      exact Cd rfl _ g1 (Ab ⟨.refl _ _,rfl⟩)
     ·cases Option.some.inj ho
      exact Ah (off:=4) rfl (by kernel_rfl) g2 (Ab ⟨.refl _ _,rfl⟩)
     ·cases Option.some.inj ho
      exact Ah (off:=1) rfl (by kernel_rfl) (hsl 2 (by simp [E9])) (Ab ⟨.refl _ _,rfl⟩)
     ·cases Option.some.inj ho
      exact AX rfl CI (hsl 3 (by simp [E9])) (by rw [Ay hc]; rfl) (Ab ⟨.refl _ _,rfl⟩)
     ·cases Option.some.inj ho
      exact Cd rfl _ g5 (Ab ⟨.refl _ _,rfl⟩)
     ·cases Option.some.inj ho
      exact AZ RE rfl Ce BC (hsl 4 (by simp [E9])) (hsl 5 (by simp [E9])) (by omega) (by omega) rfl (Ab ⟨.refl _ _,rfl⟩)
     ·cases Option.some.inj ho
      exact Cr (Bv e) rfl DX BC (hsl 6 (by simp [E9])) rfl ((RE.ext0 (H.ext.trans hx0)).row he rfl) (Ab ⟨.refl _ _,rfl⟩)
     ·cases Option.some.inj ho
      exact Ah (off:=6) rfl (by kernel_rfl) g2 (Ab ⟨.refl _ _,rfl⟩)
     ·cases Option.some.inj ho
      exact Ah (off:=0) rfl (by kernel_rfl) (hsl 8 (by simp [E9])) (Ab ⟨.refl _ _,rfl⟩)
     ·cases Option.some.inj ho
      exact AX rfl BF (hsl 9 (by simp [E9])) (by rw [Ay hc]; rfl) (Ab ⟨.refl _ _,rfl⟩)
     ·cases Option.some.inj ho
      exact Cd rfl _ g5 (Ab ⟨.refl _ _,rfl⟩)
     ·cases Option.some.inj ho
      exact AZ RF rfl AR B2 (hsl 10 (by simp [E9])) (hsl 11 (by simp [E9])) (by omega) (by omega) rfl (Ab ⟨.refl _ _,rfl⟩)
     ·cases Option.some.inj ho
      exact AX rfl Bw (hsl 12 (by simp [E9])) ((RF.ext0 (H.ext.trans hx0)).fld hxx rfl (j:=0) rfl) (Ab ⟨.refl _ _,rfl⟩)
     ·cases Option.some.inj ho
      refine Cs rfl (hsl 1 (by simp [E9])) hfc (hf i e x _ (by omega) he hxx (H.ext.trans hx0)) ?_ ?_
      ·show [e'.g 19,e'.g 25]++cl=_
       rw [show e'.g 19 = .agg (Bv e).toArray from hsl 7 (by simp [E9]),show e'.g 25 = .int .i64 x from hsl 13 (by simp [E9])]
       rfl
      ·rintro v w2 ⟨rfl,h2⟩
       rw [← hy]
       exact Ab ⟨h2,rfl⟩
     ·cases Option.some.inj ho
      exact Ap rfl (hsl 0 (by simp [E9])) (hsl 14 (by simp [E9])) (by omega) (by omega) (Ab ⟨.refl _ _,rfl⟩)
    ·intro o e' w' ho hds hold hsl hx
     cases Option.some.inj ho
     refine BW rfl _ (hsl 15 (by omega)) (Ab ?_)
     exact ⟨rfl,(),hds,⟨Dt _ _ _,trivial⟩,H.call ((Ext.drew [] w).trans hx)⟩
   ·rintro - j4 w H
    refine A5 (Aa (Aw (Ap rfl rfl rfl (by omega) (by omega) ?_)))
    refine Ad rfl rfl (Ab (Aa ?_))
    exact ⟨i+1,rfl,⟨rfl,congrArg (Value.int .i64) hst.symm,trivial⟩,⟨by omega,H⟩,by omega⟩
  ·intro h1
   replace h1:=AG h1
   obtain rfl:i=r.ids.length:=by omega
   refine Bd (Aj (Aj (AD (Aa (Ag (Ad rfl rfl (Af rfl rfl (Ab (Aa (A9 (AB (v:=(.int _ _)) rfl rfl rfl ?_)))))))))))
   exact ⟨rfl,H.ext⟩
def toF (k:Int) (e:Ed) (x:Int):Int:=if e.t=k then x else 0
def frF (k:Int) (e:Ed) (x:Int):Int:=if e.f=k then x else 0
def woF (e:Ed) (x:Int):Int := -e.cost*x
theorem Ud (b:Bool) (x:Int) (w:World):Ret Tryz.prog 99 #[.bool b,.int .i64 x] w fun v w'=>v = .int .i64 (if b=true then x else 0)∧Ext [] w w':=by
 refine A1 (fn:=Tryz.f99) Tryz.func99 rfl [.bool b,.int .i64 x] rfl (by kernel_rfl) ?_
 refine Ag (Af rfl rfl (Ab (Aa (Aq (Ag (Ak rfl rfl (Ab (Aa (Ax _ rfl ?_ ?_)))))))))
 ·intro h1
  refine Ag (Ad rfl rfl (Af rfl rfl (Ab (Aa (A9 (Al (AB (v:=(.int _ _)) rfl rfl rfl ?_)))))))
  exact ⟨by rw [if_pos h1],Ext.refl _ _⟩
 ·intro h1
  refine Av (Aa (Ag (Af rfl rfl (Ab (Aa (A9 (AB (v:=(.int _ _)) rfl rfl rfl ?_)))))))
  exact ⟨by rw [if_neg (by rw [h1]; decide)],Ext.refl _ _⟩
theorem XK (k:Int) (e:Ed) (x:Int) (b7 b3:Nat) (w:World) (h7:w.heap[b7]? = some (Bl 157 [.func (.func 99) #[] #[]])) (h3:w.heap[b3]? = some (Bl 3 [.int .i64 k])) :
  Ret Tryz.prog 101 #[.agg (Bv e).toArray,.int .i64 x,ptr b7,ptr b3] w fun v w'=>v = .int .i64 (toF k e x)∧Ext [] w w':=by
 obtain ⟨w0,rfl⟩:∃ w0,w0=w:=⟨_,rfl⟩
 have H:=Ctx.start w0 []
 refine A1 (fn:=Tryz.f101) Tryz.func101 rfl [.agg (Bv e).toArray,.int .i64 x,.pointer (some ⟨b7,0,none⟩),.pointer (some ⟨b3,0,none⟩)] rfl (by kernel_rfl) ?_
 refine Ag (Bs rfl (Bv e) (.agg _) rfl rfl H ?_)
 rintro b4 w - H
 refine Af rfl rfl (Ab (Aa (Ag (AX rfl Wi rfl ((by rw [Ay (H.ext.to h7 (by simp))]; rfl)) ?_))))
 refine Ah rfl Dz rfl (AA rfl BH rfl H at0 rfl (AX rfl BH rfl ((by rw [Ay (H.ext.to h3 (by simp))]; rfl)) ?_))
 refine BX rfl rfl rfl (Ad rfl rfl (Cs rfl rfl ZZ (Ud (decide (e.t=k)) x _) rfl ?_))
 rintro v w ⟨rfl,hx13⟩
 replace H:=H.call hx13
 refine Af rfl rfl (Ab (Aa (A9 (AB (v:=(.int _ _)) rfl rfl rfl ?_))))
 exact ⟨congrArg (Value.int .i64) (by unfold toF; by_cases h:e.t=k <;> simp [h]),H.ext⟩
theorem XL (k:Int) (e:Ed) (x:Int) (b7 b3:Nat) (w:World) (h7:w.heap[b7]? = some (Bl 157 [.func (.func 99) #[] #[]])) (h3:w.heap[b3]? = some (Bl 3 [.int .i64 k])) :
  Ret Tryz.prog 102 #[.agg (Bv e).toArray,.int .i64 x,ptr b7,ptr b3] w fun v w'=>v = .int .i64 (frF k e x)∧Ext [] w w':=by
 obtain ⟨w0,rfl⟩:∃ w0,w0=w:=⟨_,rfl⟩
 have H:=Ctx.start w0 []
 refine A1 (fn:=Tryz.f102) Tryz.func102 rfl [.agg (Bv e).toArray,.int .i64 x,.pointer (some ⟨b7,0,none⟩),.pointer (some ⟨b3,0,none⟩)] rfl (by kernel_rfl) ?_
 refine Ag (Bs rfl (Bv e) (.agg _) rfl rfl H ?_)
 rintro b4 w - H
 refine Af rfl rfl (Ab (Aa (Ag (AX rfl Wi rfl ((by rw [Ay (H.ext.to h7 (by simp))]; rfl)) ?_))))
 refine Ah rfl Dp rfl (AA rfl BH rfl H at0 rfl (AX rfl BH rfl ((by rw [Ay (H.ext.to h3 (by simp))]; rfl)) ?_))
 refine BX rfl rfl rfl (Ad rfl rfl (Cs rfl rfl ZZ (Ud (decide (e.f=k)) x _) rfl ?_))
 rintro v w ⟨rfl,hx13⟩
 replace H:=H.call hx13
 refine Af rfl rfl (Ab (Aa (A9 (AB (v:=(.int _ _)) rfl rfl rfl ?_))))
 exact ⟨congrArg (Value.int .i64) (by unfold frF; by_cases h:e.f=k <;> simp [h]),H.ext⟩
theorem Vw (e:Ed) (x:Int) (w:World) (h1 : -9223372036854775808≤e.cost*x∧e.cost*x≤9223372036854775807) (h2 : -1000≤e.cost∧e.cost≤1000) (h3 : -9223372036854775808≤woF e x∧woF e x≤9223372036854775807) :
  Ret Tryz.prog 103 #[.agg (Bv e).toArray,.int .i64 x] w fun v w'=>v = .int .i64 (woF e x)∧Ext [] w w':=by
 obtain ⟨w0,rfl⟩:∃ w0,w0=w:=⟨_,rfl⟩
 have H:=Ctx.start w0 []
 unfold woF at h3
 refine A1 (fn:=Tryz.f103) Tryz.func103 rfl [.agg (Bv e).toArray,.int .i64 x] rfl (by kernel_rfl) ?_
 refine Ag (Bs rfl (Bv e) (.agg _) rfl rfl H ?_)
 rintro b2 w - H
 refine Af rfl rfl (Ab (Aa (Ag (Ah rfl Dq rfl (AA rfl Bw rfl H at0 rfl (EN rfl rfl (by omega) (by omega) ?_))))))
 refine Ad rfl rfl (Cf rfl rfl rfl (by omega) (by omega) ?_)
 refine Af rfl rfl (Ab (Aa (A9 (AB (v:=(.int _ _)) rfl rfl rfl ?_))))
 exact ⟨rfl,H.ext⟩
/-- Flows are small, and so are sums of them. -/
theorem Ue {r:Rnd} (W:WR r) {i:Nat} {x:Int} (hx:r.fl[i]? = some x):0≤x∧x≤4503599627370496:=by
 have hl:=CB hx
 obtain ⟨e,he⟩:=AC (l:=r.es) (i:=i) (by rw [← W.len]; exact hl)
 have h1:=(BE W.wi).2.2 i e x he hx
 have h2:=CN ((BR (BE W.wi).2.1).2.2.2.1 e (List.mem_of_getElem? he))
 omega
theorem MS {r:Rnd} (W:WR r) {f:Ed→Int→Int} (hf:∀ e x,f e x=x∨f e x=0):∀ k,k≤r.ids.length→0≤GW r f k∧GW r f k≤4503599627370496*(k:Int)
 | 0,_=>by
  have:GW r f 0=0:=rfl
  rw [this]; omega
 | k+1,hk=>by
  have ih:=MS W hf k (by omega)
  have h1:=W.de
  have h2:=W.len
  obtain ⟨e,he⟩:=AC (l:=r.es) (i:=k) (by omega)
  obtain ⟨x,hx⟩:=AC (l:=r.fl) (i:=k) (by omega)
  have h3:=Ue W hx
  rw [Oh he hx]
  rcases hf e x with h | h <;> rw [h] <;> omega
theorem Ad0 (k:Int) (e:Ed) (x:Int):toF k e x=x∨toF k e x=0:=by
 unfold toF
 split
 ·exact .inl rfl
 ·exact .inr rfl
theorem Ad1 (k:Int) (e:Ed) (x:Int):frF k e x=x∨frF k e x=0:=by
 unfold frF
 split
 ·exact .inl rfl
 ·exact .inr rfl
theorem Uf (e:Ed) (x:Int):woF e x = -(x*e.cost):=by unfold woF; rw [Int.neg_mul,Int.mul_comm]
theorem SY (r:Rnd) (k:Nat):GW r woF k = -Bx (fun i=>flE r.fl i*(grE r.N r.es).co i) k:=by
 unfold GW
 rw [← L6]
 exact C3 fun i _=>Uf _ _
def Lg (r:Rnd) (k:Int):Int × Int × Int:=if BA r=true then (if 0≤k∧k<r.N - 1 then (GW r (toF k) r.ids.length,GW r (frF k) r.ids.length,0) else (0,0,10)) else (0,0,1)
set_option maxRecDepth 20000 in
set_option maxHeartbeats 2000000 in
theorem QT (r:Rnd) (q:RSl) (k:Int) (w:World) (RA:RAt w r q) (hEc:r.es.length≤q.cE) (hr:RBnd r):Ret Tryz.prog 42 #[.agg (AH r q).toArray,.int .i64 k] w fun v w'=>v=tri (Lg r k)∧Ext [] w w':=by
 obtain ⟨w0,rfl⟩:∃ w0,w0=w:=⟨_,rfl⟩
 have H:=Ctx.start w0 []
 obtain ⟨wr,hwr⟩:∃ wr,wr=BA r:=⟨_,rfl⟩
 refine A1 (fn:=Tryz.f42) Tryz.func42 rfl [.agg (AH r q).toArray,.int .i64 k] rfl (by kernel_rfl) ?_
 refine Ag (Bs rfl (AH r q) (.agg _) rfl rfl H ?_)
 rintro b2 w - H
 refine Bs rfl _ (.int _ _) rfl rfl H ?_
 rintro b3 w - H
 refine Af rfl rfl (Af rfl rfl (Af rfl rfl (Ab (Aa (Aq (Au (Ag (Bh rfl CQ C2 rfl H at1 rfl (Ao rfl Qp (Ht r q _ (RA.ext0 H.ext) hEc hr) rfl ?_)))))))))
 rintro v w ⟨rfl,hx10⟩
 replace H:=H.call hx10
 rw [← hwr]
 refine Bu rfl rfl (Ai rfl rfl (Ab (Aa (Ax _ rfl ?_ ?_))))
 ·intro h1
  replace h1:=Bp h1
  refine Ag (Af rfl rfl (Af rfl rfl (Af rfl rfl (Ab (Aa (A9 (A4 (Al (DR (v1:=(.int _ _)) (v2:=(.int _ _)) (v3:=(.int _ _)) rfl rfl rfl rfl rfl ?_)))))))))
  have h1':BA r=false:=by rw [← hwr]; simpa using h1
  exact ⟨by unfold Lg; rw [if_neg (by rw [h1']; decide)],H.ext⟩
 ·intro h1
  replace h1:=Bq h1
  have h1':BA r=true:=by rw [← hwr]; simpa using h1
  have WW:=Jv h1'
  have hN1:=WW.N1
  have hN17:=WW.N17
  have hP:Lg r k=if 0≤k∧k<r.N - 1 then (GW r (toF k) r.ids.length,GW r (frF k) r.ids.length,0) else (0,0,10):=by unfold Lg; rw [if_pos h1']
  rw [hP]
  refine Aq (Ag (AA rfl BH rfl H at0 rfl (AN rfl rfl rfl (Ai rfl rfl (Ab (Aa (CT 12 rfl ?_ ?_)))))))
  ·intro h2
   replace h2:=AF h2
   refine Av (Aa (CM rfl (Ag (Af rfl rfl (Af rfl rfl (Af rfl rfl (Ab (Aa (A9 (A4 (Al (DR (v1:=(.int _ _)) (v2:=(.int _ _)) (v3:=(.int _ _)) rfl rfl rfl rfl rfl ?_))))))))))))
   exact ⟨by rw [if_neg (by omega)],H.ext⟩
  ·intro h2
   replace h2:=AG h2
   have HG:Ctx w0 [] w [(b3,Bl 3 [.int .i64 k]),(b2,Bl 33 (AH r q))]:=H
   have hb2:=HG.get at1
   have hb3:=HG.get at0
   obtain ⟨w1,rfl⟩:∃ z,z=w:=⟨_,rfl⟩
   clear H
   have H:=Ctx.start w1 []
   refine Fx [([0,1],2),([3],4)] (fun z=>Ext [] w1 z) [] B3 (by kernel_rfl) (Ext.drew [] w1) ?_
   refine Ba rfl rfl ?_
   refine Ck rfl BH rfl (fun _ hx=>(by rw [Ay (hx.to hb3 (by simp))]; rfl)) ?_
   refine Gl _ rfl CQ C2 rfl rfl (fun _ hx=>(CF (b:=b2) (t:=33) (l:=AH r q) (hx.to hb2 (by simp)) 0 (AH r q) rfl)) ?_
   refine BJ ?_
   replace H:=H.drew
   refine Ao rfl JZ (HY r q _ (by omega)) rfl ?_
   rintro v w ⟨rfl,hx17⟩
   replace H:=H.call hx17
   refine Ab (CX (H.ext) (Ba rfl rfl ?_))
   refine t_geq rfl rfl rfl (BJ (Ai rfl rfl (Ab (CX (H.ext) (Ch (Aa (CT 12 rfl ?_ ?_)))))))
   ·intro h3
    replace h3:=AF h3
    refine Ag (Af rfl rfl (Af rfl rfl (Af rfl rfl (Ab (Aa (A9 (A4 (Al (DR (v1:=(.int _ _)) (v2:=(.int _ _)) (v3:=(.int _ _)) rfl rfl rfl rfl rfl ?_)))))))))
    exact ⟨by rw [if_neg (by omega)],HG.ext.trans H.ext⟩
   ·intro h3
    replace h3:=AG h3
    rw [if_pos (by omega)]
    replace H:=HG.call H.ext
    refine Av (A5 (Aa (Ag (Bm rfl Adb H ?_))))
    rintro b7 w - H
    refine Cj (.func _ _ _) rfl Ac5 rfl rfl rfl H at0 (by decide) ?_
    rintro w H
    refine Ab (Aa (Ag (Bh rfl CQ C2 rfl H at2 rfl (C1 rfl [.pointer _,.pointer _] rfl (Ao rfl Sd (MR r q 101 [ptr b7,ptr b3] (toF k) _ (RA.ext0 H.ext) hr WW.de WW.len Aa0 (fun i e x w' _ _ _ hx=>XK k e x b7 b3 w' (hx.to (H.get at0) (by simp)) (hx.to (H.get at1) (by simp))) (fun j hj=>by have:=MS WW (Ad0 k) j hj; have:=WW.d64; omega)) rfl ?_)))))
    rintro v w ⟨rfl,hx21⟩
    replace H:=H.call hx21
    refine Af rfl rfl (Ab (Aa (Ag (Bh rfl CQ C2 rfl H at2 rfl (C1 rfl [.pointer _,.pointer _] rfl (Ao rfl Sd (MR r q 102 [ptr b7,ptr b3] (frF k) _ (RA.ext0 H.ext) hr WW.de WW.len Aa1 (fun i e x w' _ _ _ hx=>XL k e x b7 b3 w' (hx.to (H.get at0) (by simp)) (hx.to (H.get at1) (by simp))) (fun j hj=>by have:=MS WW (Ad1 k) j hj; have:=WW.d64; omega)) rfl ?_))))))
    rintro v w ⟨rfl,hx24⟩
    replace H:=H.call hx24
    refine Af rfl rfl (Ab (Aa (Ag (Ad rfl rfl (Ad rfl rfl (Af rfl rfl (Af rfl rfl (Af rfl rfl (Ab (Aa (A9 (DR (v1:=(.int _ _)) (v2:=(.int _ _)) (v3:=(.int _ _)) rfl rfl rfl rfl rfl ?_))))))))))))
    exact ⟨rfl,H.ext⟩
def JH (r:Rnd):Int × Int:=if BA r=true then (GW r woF r.ids.length,0) else (0,1)
theorem XM {r:Rnd} (W:WR r) {k:Nat} (hk:k≤r.ids.length) : -4611686018427387904≤GW r woF k∧GW r woF k≤4611686018427387904:=by
 have:=Z7 W.wi (k:=k) (by have:=W.de; omega)
 rw [SY]
 omega
theorem XN {r:Rnd} (W:WR r) {i:Nat} {e:Ed} (hi:i<r.ids.length) (he:r.es[i]? = some e) : -1000≤e.cost∧e.cost≤1000:=by
 have:=Pw (W.due i e hi he)
 omega
set_option maxRecDepth 20000 in
theorem Vx (r:Rnd) (q:RSl) (w:World) (RA:RAt w r q) (hEc:r.es.length≤q.cE) (hr:RBnd r):Ret Tryz.prog 44 #[.agg (AH r q).toArray] w fun v w'=>v = .tuple #[.int .i64 (JH r).1,.int .i64 (JH r).2]∧Ext [] w w':=by
 obtain ⟨w0,rfl⟩:∃ w0,w0=w:=⟨_,rfl⟩
 have H:=Ctx.start w0 []
 obtain ⟨wr,hwr⟩:∃ wr,wr=BA r:=⟨_,rfl⟩
 refine A1 (fn:=Tryz.f44) Tryz.func44 rfl [.agg (AH r q).toArray] rfl (by kernel_rfl) ?_
 refine Ag (Bs rfl (AH r q) (.agg _) rfl rfl H ?_)
 rintro b1 w - H
 refine Af rfl rfl (Af rfl rfl (Ab (Aa (Aq (Ag (Bh rfl CQ C2 rfl H at0 rfl (Ao rfl Qp (Ht r q _ (RA.ext0 H.ext) hEc hr) rfl ?_)))))))
 rintro v w ⟨rfl,hx5⟩
 replace H:=H.call hx5
 rw [← hwr]
 refine Bu rfl rfl (Ab (Aa (Ax _ rfl ?_ ?_)))
 ·intro h1
  replace h1:=Bp h1
  refine Ag (Af rfl rfl (Af rfl rfl (Ab (Aa (A9 (Al (DK (v1:=(.int _ _)) (v2:=(.int _ _)) rfl rfl rfl rfl ?_)))))))
  have h1':BA r=false:=by rw [← hwr]; simpa using h1
  exact ⟨by unfold JH; rw [if_neg (by rw [h1']; decide)],H.ext⟩
 ·intro h1
  replace h1:=Bq h1
  have h1':BA r=true:=by rw [← hwr]; simpa using h1
  have WW:=Jv h1'
  have hP:JH r=(GW r woF r.ids.length,0):=by unfold JH; rw [if_pos h1']
  rw [hP]
  refine Av (Aa (Ag (Bh rfl CQ C2 rfl H at0 rfl (Ao rfl Sd (MR r q 103 [] woF _ (RA.ext0 H.ext) hr WW.de WW.len Aa2 (fun i e x w' hi he hxx _=>Vw e x w' (by have:=Ua WW.wi he hxx; omega) (XN WW hi he) (by rw [Uf,Int.mul_comm]; have:=Ua WW.wi he hxx; omega)) (fun j hj=>XM WW hj)) rfl ?_))))
  rintro v w ⟨rfl,hx8⟩
  replace H:=H.call hx8
  refine Af rfl rfl (Af rfl rfl (Ab (Aa (A9 (DK (v1:=(.int _ _)) (v2:=(.int _ _)) rfl rfl rfl rfl ?_)))))
  exact ⟨rfl,H.ext⟩
end Go.Proofs.YtapphbmlkdhnmaaGreat

/- The plain law of the sum of 32 bits: what is turned within 32 bits in a row is seen. -/
namespace Go.Proofs.YtapphbmlkdhnmaaGreat

def polyW:BitVec 32:=0xedb88320#32
def G3 (w:BitVec 32):BitVec 32:=(w >>> 1) ^^^ (if w.getLsbD 0 then polyW else 0#32)
def LB (x:BitVec 32):BitVec 32:=if x.getLsbD 31 then ((x ^^^ polyW) <<< 1) ||| 1#32 else x <<< 1
def Cg:Nat→BitVec 32→BitVec 32
 | 0,w=>w
 | n+1,w=>Cg n (G3 w)
def Kn:Nat→BitVec 32→BitVec 32
 | 0,w=>w
 | n+1,w=>LB (Kn n w)
def De (c:UInt8):BitVec 32:=BitVec.ofNat 32 c.toNat
def E2 (w:BitVec 32) (c:UInt8):BitVec 32:=Cg 8 (w ^^^ De c)
def XO (s:BitVec 32) (l:List UInt8):BitVec 32 := ~~~ (l.foldl E2 (~~~ s))
def Px (l:List UInt8):BitVec 32:=XO 0#32 l

theorem QU (w:BitVec 32):LB (G3 w)=w:=by
 unfold LB G3
 have hp:polyW.getLsbD 31=true:=by decide
 cases h:w.getLsbD 0 with
 | false =>
  have h1:((w >>> 1) ^^^ (if false=true then polyW else 0#32)).getLsbD 31=false:=by simp
  rw [h1]
  simp only [Bool.false_eq_true,if_false]
  apply BitVec.eq_of_getLsbD_eq
  intro i hi
  simp only [BitVec.getLsbD_shiftLeft,BitVec.getLsbD_xor,BitVec.getLsbD_ushiftRight,BitVec.getLsbD_zero,Bool.xor_false]
  by_cases h0:i=0
  ·subst h0; simpa using h.symm
  ·have:1+(i - 1)=i:=by omega
   rw [this]; simp [hi,h0]
 | true =>
  have h1:((w >>> 1) ^^^ (if true=true then polyW else 0#32)).getLsbD 31=true:=by simp [hp]
  rw [h1]
  simp only [if_true]
  apply BitVec.eq_of_getLsbD_eq
  intro i hi
  rw [BitVec.xor_assoc,BitVec.xor_self,BitVec.xor_zero]
  simp only [BitVec.getLsbD_or,BitVec.getLsbD_shiftLeft,BitVec.getLsbD_ushiftRight]
  by_cases h0:i=0
  ·subst h0; simp [h]
  ·have:1+(i - 1)=i:=by omega
   rw [this]; simp [hi,h0]
theorem GX:∀ (n:Nat) (w:BitVec 32),Kn n (Cg n w)=w
 | 0,_=>rfl
 | n+1,w=>by
  show LB (Kn n (Cg n (G3 w)))=w
  rw [GX n,QU]
theorem Vy {n:Nat} {a b:BitVec 32} (h:Cg n a=Cg n b):a=b:=by
 rw [← GX n a,h,GX]
theorem XP (a b:BitVec 32):G3 (a ^^^ b)=G3 a ^^^ G3 b:=by
 unfold G3
 rw [BitVec.getLsbD_xor,BitVec.ushiftRight_xor_distrib]
 cases a.getLsbD 0 <;> cases b.getLsbD 0 <;> simp only [Bool.xor_false,Bool.xor_true,Bool.not_true,Bool.not_false,if_true,Bool.false_eq_true,if_false,BitVec.xor_zero]
 ·ac_rfl
 ·ac_rfl
 ·rw [show a >>> 1 ^^^ polyW ^^^ (b >>> 1 ^^^ polyW)=a >>> 1 ^^^ b >>> 1 ^^^ (polyW ^^^ polyW) by ac_rfl,BitVec.xor_self,BitVec.xor_zero]
theorem EY:∀ (n:Nat) (a b:BitVec 32),Cg n (a ^^^ b)=Cg n a ^^^ Cg n b
 | 0,_,_=>rfl
 | n+1,a,b=>by simp only [Cg]; rw [XP,EY n]
theorem Vz:G3 0#32=0#32:=by decide
theorem MT:∀ n,Cg n 0#32=0#32
 | 0=>rfl
 | n+1=>by simp only [Cg]; rw [Vz,MT n]
theorem EF:∀ (m n:Nat) (w:BitVec 32),Cg n (Cg m w)=Cg (m+n) w
 | 0,n,w=>by simp [Cg]
 | m+1,n,w=>by rw [Nat.succ_add]; simp only [Cg]; exact EF m n _
theorem XQ (a b:UInt8):De (a ^^^ b)=De a ^^^ De b:=by
 unfold De
 apply BitVec.eq_of_toNat_eq
 simp only [BitVec.toNat_xor,BitVec.toNat_ofNat,UInt8.toNat_xor]
 have ha:=a.toNat_lt; have hb:=b.toNat_lt
 have hx:=Nat.xor_lt_two_pow (n:=8) ha hb
 rw [Nat.mod_eq_of_lt (by omega),Nat.mod_eq_of_lt (by omega),Nat.mod_eq_of_lt (by omega)]
theorem V0:De 0=0#32:=rfl
def xorL:List UInt8→List UInt8→List UInt8
 | a::l,b::m=>(a ^^^ b)::xorL l m
 | _,_=>[]
theorem take_zero (w:BitVec 32):E2 w 0=Cg 8 w:=by rw [E2,V0,BitVec.xor_zero]
theorem Oi:∀ (n:Nat) (w:BitVec 32),(∀ i,i<n→w.getLsbD i=false)→Cg n w=w >>> n
 | 0,w,_=>by simp [Cg]
 | n+1,w,h=>by
  have h0:G3 w=w >>> 1:=by
   unfold G3; rw [h 0 (by omega)]; simp
  simp only [Cg]
  rw [h0,Oi n (w >>> 1) (fun i hi=>by rw [BitVec.getLsbD_ushiftRight]; exact h _ (by omega)),← BitVec.shiftRight_add,Nat.add_comm 1 n]
theorem LC (c:UInt8) (n:Nat) (hn:n≤24):Cg n (De c <<< n)=De c:=by
 rw [Oi n _ (fun i hi=>by simp [BitVec.getLsbD_shiftLeft,hi])]
 have hc:c.toNat<256:=c.toNat_lt
 apply BitVec.eq_of_toNat_eq
 unfold De
 rw [BitVec.toNat_ushiftRight,BitVec.toNat_shiftLeft,BitVec.toNat_ofNat,Nat.mod_eq_of_lt (by omega:c.toNat<2 ^ 32),Nat.shiftLeft_eq]
 have h1:c.toNat*2 ^ n<2 ^ 32:=by
  have h2:2 ^ n≤2 ^ 24:=Nat.pow_le_pow_right (by omega) hn
  calc c.toNat*2 ^ n≤255*2 ^ 24:=Nat.mul_le_mul (by omega) h2
   _<2 ^ 32:=by decide
 rw [Nat.mod_eq_of_lt h1,Nat.shiftRight_eq_div_pow,Nat.mul_div_cancel _ (Nat.two_pow_pos n)]

/-- A word's four bytes. -/
def Lh (a b c d:UInt8):BitVec 32:=De a ^^^ (De b <<< 8) ^^^ (De c <<< 16) ^^^ (De d <<< 24)
theorem four (w:BitVec 32) (a b c d:UInt8):[a,b,c,d].foldl E2 w=Cg 32 (w ^^^ Lh a b c d):=by
 have ha:Cg 32 (De a)=Cg 32 (De a):=rfl
 have hb:Cg 24 (De b)=Cg 32 (De b <<< 8):=by
  rw [← EF 8 24,LC b 8 (by omega)]
 have hc:Cg 16 (De c)=Cg 32 (De c <<< 16):=by
  rw [← EF 16 16,LC c 16 (by omega)]
 have hd:Cg 8 (De d)=Cg 32 (De d <<< 24):=by
  rw [← EF 24 8,LC d 24 (by omega)]
 simp only [List.foldl_cons,List.foldl_nil,E2,EY,EF]
 rw [hb,hc,hd,show 8+(8+(8+8))=32 from rfl]
 simp only [Lh,EY]
 ac_rfl
def burstB (o v:Nat):Bool:=(Kn 32 (BitVec.ofNat 32 v)).toNat % 2 ^ o == 0
end Go.Proofs.YtapphbmlkdhnmaaGreat
