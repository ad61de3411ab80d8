/- Part 14 of the proof. The last text: WitnessPlays: for every input the law answers true, and turns nothing. -/
import Derived.Test.YtapphbmlkdhnmaaGreatPart2
import Derived.Test.YtapphbmlkdhnmaaGreatPart13
import Derived.Test.YtapphbmlkdhnmaaGreatPart4
import Derived.Test.YtapphbmlkdhnmaaGreatPart10
import Derived.Test.YtapphbmlkdhnmaaGreatRows
/- What may be paid is worth no more than the round that is planned: plain law. -/
namespace Go.Proofs.YtapphbmlkdhnmaaGreat
open Go.GV

/-- What a bank may go down by. -/
def baseK (rs:List Int) (net:Bool) (k:Nat):Int:=if net=true then 0 else rs.getD k 0
def Aa7 (rs:List Int) (os:List Du) (net:Bool) (xs:List Int) (k:Nat):Int:=baseK rs net k+byK rs os net xs k
/-- What may be paid. -/
structure PermP (rs:List Int) (ds:List Du) (net:Bool) (xs:List Int):Prop where
 B:Bright rs ds
 pay:PayIn (opn ds) xs
 left:∀ k,k<rs.length→0≤Aa7 rs (opn ds) net xs k∧(net=true→Aa7 rs (opn ds) net xs k=0)
def worthS (os:List Du) (xs:List Int) (k:Nat):Int:=B7 (fun i=>(os.getD i d00).we*xs.getD i 0) k
/-- What flows where that is paid. -/
def flowY (rs:List Int) (os:List Du) (net:Bool) (xs:List Int) (i:Nat):Int :=
 if i<os.length then flE xs i else if (i - os.length) % 2=0 then max 0 (-byK rs os net xs ((i - os.length) / 2)) else max 0 (byK rs os net xs ((i - os.length) / 2))
end Go.Proofs.YtapphbmlkdhnmaaGreat

/- What is the same is told to be the same: rounds, rooms, dues. -/
namespace Go.Proofs.YtapphbmlkdhnmaaGreat
open Go.GV
attribute [local irreducible] AC W Wq Wt

set_option maxRecDepth 20000 in
theorem VK (a b:Option Addr) (n c m d:Nat) (xs:List Int) (w:World) (R:Rd w a 1 I1 xs) (hn:xs.length=n) (hn2:n≤1000000) (Ry:Rd w b 1 I1 xs) (hm:xs.length=m) :
  Ret Tryz.prog 98 #[.slice a n c,.slice b m d] w fun v w'=>v = .bool true∧Ext [] w w':=by
 subst hn hm;obtain ⟨w0,rfl⟩:∃ w0,w0=w:=⟨_,rfl⟩;have H:=Ctx.start w0 [];refine A2 (fn:=Tryz.f98) Tryz.func98 U [.slice a xs.length c,.slice b xs.length d] U (by kernel_rfl) ?_;refine Ag (Ai U U (Ab (Aa (Aq (Ag (Ap U U (AV U AU U (Ap U U (AV U AU U (CC U U U ?_))))))))));refine Ab (Aa (Ay _ U ?_ ?_))
 ·intro h1;replace h1:=CK h1;omega
 ·intro h1;replace h1:=CL h1;refine Ax (Aa (Aq (Ag (Ad U U (Ab (Aa (Av (Bd 67106864 (α:=Nat) (fun i=>[(5,.int .i64 (i:Int))]) (fun i w'=>i≤xs.length∧Ctx w0 [] w' []) (fun i=>xs.length - i) 0 U ?_ ?_ ?_))))))))
  ·exact ⟨rfl,trivial⟩
  ·exact ⟨Nat.zero_le _,H⟩
  ·clear H;rintro i j w ⟨hi,H⟩;refine Aq (Ag (Ae U U (Ap U U (AV U AU U (AO U U U (Ab (Aa (Ay _ U ?_ ?_))))))))
   ·intro h2;replace h2:=AG h2;obtain ⟨x,hx⟩:=AE (l:=xs) (i:=i) (by omega);refine Ax (Aa (Aq (Av (DQ (fun x=>x=_) B0 (by kernel_rfl) U ?_))));refine BV U U (AN U U (BA R U AU Bz U U (by omega) (by omega) (by rfl) ?_));refine Ch U Bx U (by rintro _ rfl; exact (((R.ext0 H.drew.ext).one (f:=QU) hx))) ?_;refine BV U U (AN U U (BA Ry U AU Bz U U (by omega) (by omega) (by rfl) ?_));refine Ch U Bx U (by rintro _ rfl; exact (((Ry.ext0 H.drew.ext).one (f:=QU) hx))) ?_;refine Mx U U U (Ca ?_);rintro _ rfl;replace H:=H.drew;refine Ay _ U ?_ ?_
    ·intro h3;replace h3:=CK h3;omega
    ·intro h3;replace h3:=CL h3;refine Ax (A3 (Aa (Aw (Ae U U (Ao U U U (by omega) (by omega) ?_)))));refine Ad U U (Ab (Aa ?_));exact ⟨i+1,rfl,⟨rfl,trivial⟩,⟨by omega,H⟩,by omega⟩
   ·intro h2;replace h2:=AH h2;refine Bc (Aj (Aj (AD (Aa (Ag (Ai U U (Ab (Aa (A9 (AF (v:=(.bool _)) U U U ?_))))))))));exact ⟨rfl,H.ext⟩
set_option maxRecDepth 20000 in
theorem VL (a b p q:Option Addr) (n c m d u e v f:Nat) (xs:List Int) (ds:List Du) (w:World) (R:Rd w a 1 I1 xs) (hn:xs.length=n) (hn2:n≤1000000) (Ry:Rd w b 1 I1 xs) (hm:xs.length=m) (Rp:Rd w p 7 DW ds) (hu:ds.length=u) (hu2:u≤1000000) (Rq:Rd w q 7 DW ds) (hv:ds.length=v) :
  Ret Tryz.prog 41 #[.slice a n c,.slice b m d,.slice p u e,.slice q v f] w fun v w'=>v = .bool true∧Ext [] w w':=by
 subst hn hm hu hv;obtain ⟨w0,rfl⟩:∃ w0,w0=w:=⟨_,rfl⟩;have H:=Ctx.start w0 [];refine A2 (fn:=Tryz.f41) Tryz.func41 U [.slice a xs.length c,.slice b xs.length d,.slice p ds.length e,.slice q ds.length f] U (by kernel_rfl) ?_;refine Ag (Ai U U (Ab (Aa (Aq (Ag (B5 (α:=Unit) 2096128 (fun _=>[(20,.bool (false))]) (fun _ w'=>Ctx w0 [] w' []) U ?_ ?_))))))
 ·refine Ap U U (Ap U U (Al U ca_98 (VK a b _ c _ d xs _ R U hn2 Ry U) U ?_));rintro v w ⟨rfl,hx12⟩;replace H:=H.call hx12;refine Bv U U (Ak U U (A4 14 U ?_ ?_))
  ·intro h1;replace h1:=Bo h1;refine Af U (Af U (Af U (Af U (Af U (An U U (.bool _) U (Ab ?_))))));exact ⟨rfl,(),rfl,⟨congrArg Value.bool (by (simp_all; done)),trivial⟩,H⟩
  ·intro h2;replace h2:=Bp h2;refine Ap U U (AV U D0 U (Ap U U (AV U D0 U (CC U U U (A1 U U (.bool _) U (Ab ?_))))));exact ⟨rfl,(),rfl,⟨congrArg Value.bool (by (simp_all; done)),trivial⟩,H⟩
 rintro - j20 w H;refine EQ U (Ax (Aa (Aq (Ag (Ad U U (Ab (Aa (Av (Bd 68717380352 (α:=Nat) (fun i=>[(9,.int .i64 (i:Int))]) (fun i w'=>i≤ds.length∧Ctx w0 [] w' []) (fun i=>ds.length - i) 0 U ?_ ?_ ?_)))))))))
 ·exact ⟨rfl,trivial⟩
 ·exact ⟨Nat.zero_le _,H⟩
 ·clear H;rintro i j w ⟨hi,H⟩;refine Aq (Ag (Ae U U (Ap U U (AV U D0 U (AO U U U (Ab (Aa (Ay _ U ?_ ?_))))))))
  ·intro h2;replace h2:=AG h2;obtain ⟨x,hx⟩:=AE (l:=ds) (i:=i) (by omega);refine Ax (Aa (Aq (Av (DQ (fun x=>x=_) B0 (by kernel_rfl) U ?_))));refine BV U U (AN U U (BA Rp U D0 Dm U U (by omega) (by omega) (by rfl) ?_));refine IB _ U HK Dm U U (by rintro _ rfl; exact ((Rp.ext0 H.drew.ext).row hx rfl)) ?_;refine BV U U (AN U U (BA Rq U D0 Dm U U (by omega) (by omega) (by rfl) ?_));refine IB _ U HK Dm U U (by rintro _ rfl; exact ((Rq.ext0 H.drew.ext).row hx rfl)) ?_;refine Aal (ks:=[true,true,true,true,true,true,false]) (xs:=DW x) (ys:=DW x) true U (by kernel_rfl) U U ⟨rfl,rfl,rfl,rfl,rfl,rfl,True.intro,True.intro⟩ (by simp) ?_;refine Ca ?_;rintro _ rfl;replace H:=H.drew;refine Ay _ U ?_ ?_
   ·intro h3;exact absurd h3 (by decide)
   ·intro h3;refine Ax (A3 (Aa (Aw (Ae U U (Ao U U U (by omega) (by omega) ?_)))));refine Ad U U (Ab (Aa ?_));exact ⟨i+1,rfl,⟨rfl,trivial⟩,⟨by omega,H⟩,by omega⟩
  ·intro h2;replace h2:=AH h2;refine Bc (Aj (Aj (AD (Aa (Ag (Ai U U (Ab (Aa (A9 (AF (v:=(.bool _)) U U U ?_))))))))));exact ⟨rfl,H.ext⟩
set_option maxRecDepth 20000 in
set_option maxHeartbeats 4000000 in
theorem VM (r:Rnd) (q s:RSl) (w:World) (RA:RAt w r q) (RB:RAt w r s) (hr:RBnd r) :
  Ret Tryz.prog 32 #[.agg (A8 r q).toArray,.agg (A8 r s).toArray] w fun v w'=>v = .bool true∧Ext [] w w':=by
 obtain ⟨w0,rfl⟩:∃ w0,w0=w:=⟨_,rfl⟩;have H:=Ctx.start w0 [];have he:=hr.es;have hi:=hr.ids;have hf:=hr.fl;have hp:=hr.pot;refine A2 (fn:=Tryz.f32) Tryz.func32 U [.agg (A8 r q).toArray,.agg (A8 r s).toArray] U (by kernel_rfl) ?_;refine Ag (Bt U (A8 r q) (.agg _) U U H ?_);rintro b2 w - H;refine Bt U (A8 r s) (.agg _) U U H ?_;rintro b3 w - H;refine Ai U U (Ab (Aa (Aq (Ag (B5 (α:=Unit) 73786976294838206208 (fun _=>[(65,.bool (false))]) (fun _ w'=>Ctx w0 [] w' [(b3,Bl 33 (A8 r s)),(b2,Bl 33 (A8 r q))]) U ?_ ?_)))))
 ·refine Ah U LV U (AA U BR U H at1 U (Ah U LV U (AA U BR U H at0 U (CC U U U (Ak U U (A4 13 U ?_ ?_))))))
  ·intro h1;replace h1:=CK h1;refine Af U (Af U (Af U (Af U (Af U (An U U (.bool _) U (Ak U U (Af U (Af U (Af U ?_)))))))));refine Af U (Af U (An U U (.bool _) U (Ak U U (Af U (Af U (Af U (Af U (Af U (Af U ?_)))))))));refine An U U (.bool _) U (Ak U U (Af U (Af U (Af U (Af U (Af U (Af U (Af U (An U U (.bool _) U ?_)))))))));refine Ak U U (Af U (Af U (Af U (Af U (Af U (Af U (Af U (Af U (Af U ?_)))))))));refine An U U (.bool _) U (Ak U U (Af U (Af U (Af U (Af U (Af U (Af U (Af U (Af U ?_)))))))));refine Af U (An U U (.bool _) U (Ab ?_));exact ⟨rfl,(),rfl,⟨congrArg Value.bool (by (simp_all; done)),trivial⟩,H⟩
  ·intro h2;replace h2:=CL h2;refine Ah U K5 U (AA U Bx U H at1 U (Ah U K5 U (AA U Bx U H at0 U (CC U U U (A1 U U (.bool _) U (Ak U U (A4 20 U ?_ ?_)))))))
   ·intro h3;replace h3:=CK h3;refine Af U (Af U (Af U (Af U (Af U (An U U (.bool _) U (Ak U U (Af U (Af U (Af U ?_)))))))));refine Af U (Af U (Af U (An U U (.bool _) U (Ak U U (Af U (Af U (Af U (Af U (Af U ?_)))))))));refine Af U (Af U (An U U (.bool _) U (Ak U U (Af U (Af U (Af U (Af U (Af U (Af U ?_)))))))));refine Af U (Af U (Af U (An U U (.bool _) U (Ak U U (Af U (Af U (Af U (Af U (Af U ?_)))))))));refine Af U (Af U (Af U (Af U (An U U (.bool _) U (Ab ?_)))));exact ⟨rfl,(),rfl,⟨congrArg Value.bool (by (simp_all; done)),trivial⟩,H⟩
   ·intro h4;replace h4:=CL h4;refine Ah U FZ U (AA U Fx U H at1 U (Ah U FZ U (AA U Fx U H at0 U (YO un_4 U U U ?_))));refine A1 U U (.bool _) U (Ak U U (A4 27 U ?_ ?_))
    ·intro h5;refine Af U (Af U (Af U (Af U (Af U (Af U (An U U (.bool _) U (Ak U U (Af U (Af U ?_)))))))));refine Af U (Af U (Af U (Af U (Af U (An U U (.bool _) U (Ak U U (Af U (Af U (Af U ?_)))))))));refine Af U (Af U (Af U (Af U (Af U (Af U (An U U (.bool _) U (Ak U U (Af U (Af U ?_)))))))));refine Af U (Af U (Af U (Af U (Af U (Af U (Af U (An U U (.bool _) U (Ab ?_))))))));exact ⟨rfl,(),rfl,⟨congrArg Value.bool (by (simp_all; done)),trivial⟩,H⟩
    ·intro h6;refine Ah U C4 U (Cd _ U C1 Cs U U ((BU (l:=A8 r q) (H.get at1) 4 [.int .i64 r.N,.slice q.aE r.es.length q.cE] U)) ?_);refine Ah U C4 U (Cd _ U C1 Cs U U ((BU (l:=A8 r s) (H.get at0) 4 [.int .i64 r.N,.slice s.aE r.es.length s.cE] U)) ?_);refine Al U ca_19 (Tv r.N r.N q.aE s.aE _ q.cE _ s.cE r.es r.es _ (RA.E.ext0 H.ext) U he (RB.E.ext0 H.ext) U he) U ?_;rintro v w ⟨rfl,hx32⟩;replace H:=H.call hx32;rw [show OU r.N r.N r.es r.es=true by simp [OU]];refine Bv U U (A1 U U (.bool _) U (Ak U U (A4 35 U ?_ ?_)))
     ·intro h7;replace h7:=Bo h7;refine Af U (Af U (Af U (Af U (Af U (Af U (Af U (An U U (.bool _) U (Ak U U (Af U ?_)))))))));refine Af U (Af U (Af U (Af U (Af U (Af U (Af U (Af U (An U U (.bool _) U (Ak U U ?_)))))))));refine Af U (Af U (Af U (Af U (Af U (Af U (Af U (Af U (Af U (An U U (.bool _) U ?_)))))))));refine Ab ?_;exact ⟨rfl,(),rfl,⟨congrArg Value.bool (by (simp_all; done)),trivial⟩,H⟩
     ·intro h8;replace h8:=Bp h8;refine Ah U Dk U (AA U DS U H at1 U (AV U Bf U (Ah U Dk U (AA U DS U H at0 U (AV U Bf U (CC U U U (A1 U U (.bool _) U (Ak U U (A4 44 U ?_ ?_)))))))))
      ·intro h9;replace h9:=CK h9;refine Af U (Af U (Af U (Af U (Af U (Af U (Af U (Af U (Af U (An U U (.bool _) U ?_)))))))));refine Ak U U (Af U (Af U (Af U (Af U (Af U (Af U (Af U (Af U (Af U ?_)))))))));refine An U U (.bool _) U (Ab ?_);exact ⟨rfl,(),rfl,⟨congrArg Value.bool (by (simp_all; done)),trivial⟩,H⟩
      ·intro h10;replace h10:=CL h10;refine Ah U CW U (Ah U DM U (AA U BC U H at1 U (AV U AU U (Ah U CW U (Ah U DM U (AA U BC U H at0 U (AV U AU U (CC U U U (A1 U U (.bool _) U ?_)))))))));refine Ak U U (A4 55 U ?_ ?_)
       ·intro h11;replace h11:=CK h11;refine Af U (Af U (Af U (Af U (Af U (Af U (Af U (Af U (Af U (An U U (.bool _) U ?_)))))))));refine Ab ?_;exact ⟨rfl,(),rfl,⟨congrArg Value.bool (by (simp_all; done)),trivial⟩,H⟩
       ·intro h12;replace h12:=CL h12;refine Ah U CW U (Ah U EU U (AA U BC U H at1 U (AV U AU U (Ah U CW U (Ah U EU U (AA U BC U H at0 U (AV U AU U (CC U U U (A1 U U (.bool _) U ?_)))))))));refine Ab ?_;exact ⟨rfl,(),rfl,⟨congrArg Value.bool (by (simp_all; done)),trivial⟩,H⟩
 rintro - j65 w H;refine EQ U (Ax (Aa (Aq (Ag (Ad U U (Ab (Aa (Av (Bd 19342739326857771957092400 (α:=Nat) (fun i=>[(5,.int .i64 (i:Int))]) (fun i w'=>i≤r.ids.length∧Ctx w0 [] w' [(b3,Bl 33 (A8 r s)),(b2,Bl 33 (A8 r q))]) (fun i=>r.ids.length - i) 0 U ?_ ?_ ?_)))))))))
 ·exact ⟨rfl,trivial⟩
 ·exact ⟨Nat.zero_le _,H⟩
 ·clear H;rintro i j w ⟨hii,H⟩;refine Aq (Ag (Ae U U (Ah U Dk U (AA U DS U H at1 U (AV U Bf U (AO U U U (Ab (Aa (Ay _ U ?_ ?_)))))))))
  ·intro h2;replace h2:=AG h2;obtain ⟨x,hx⟩:=AE (l:=r.ids) (i:=i) (by omega);refine Ax (Aa (Aq (Av (DQ (fun x=>x=_) B0 (by kernel_rfl) U ?_))));refine A7 U Dk U (Ce U DS U (by rintro _ rfl; exact H.drew) at1 U ?_);refine AN U U (BA RA.I U Bf Be U U (by omega) (by omega) (by rfl) ?_);refine Ch U BR U (by rintro _ rfl; exact (((RA.I.ext0 H.drew.ext).one (f:=F1) hx))) ?_;refine A7 U Dk U (Ce U DS U (by rintro _ rfl; exact H.drew) at0 U ?_);refine AN U U (BA RB.I U Bf Be U U (by omega) (by omega) (by rfl) ?_);refine Ch U BR U (by rintro _ rfl; exact (((RB.I.ext0 H.drew.ext).one (f:=F1) hx))) ?_;refine Mx U U U (Ca ?_);rintro _ rfl;replace H:=H.drew;refine Ay _ U ?_ ?_
   ·intro h3;replace h3:=CK h3;omega
   ·intro h3;replace h3:=CL h3;refine Ax (A3 (Aa (Aw (Ae U U (Ao U U U (by omega) (by omega) ?_)))));refine Ad U U (Ab (Aa ?_));exact ⟨i+1,rfl,⟨rfl,trivial⟩,⟨by omega,H⟩,by omega⟩
  ·intro h2;replace h2:=AH h2;refine Bc (Aj (Aj (AD (Aa (Aq (Ag (Ad U U (Ab (Aa (Av (Bd 40564799864490227013827707273296 (α:=Nat) (fun i=>[(6,.int .i64 (i:Int))]) (fun i w'=>i≤r.fl.length∧Ctx w0 [] w' [(b3,Bl 33 (A8 r s)),(b2,Bl 33 (A8 r q))]) (fun i=>r.fl.length - i) 0 U ?_ ?_ ?_)))))))))))
   ·exact ⟨rfl,trivial⟩
   ·exact ⟨Nat.zero_le _,H⟩
   ·clear H;rintro i2 j2 w ⟨hii2,H⟩;refine Aq (Ag (Ae U U (Ah U CW U (Ah U DM U (AA U BC U H at1 U (AV U AU U (AO U U U (Ab (Aa (Ay _ U ?_ ?_))))))))))
    ·intro h3;replace h3:=AG h3;obtain ⟨x,hx⟩:=AE (l:=r.fl) (i:=i2) (by omega);refine Ax (Aa (Aq (Av (DQ (fun x=>x=_) B0 (by kernel_rfl) U ?_))));refine A7 U CW U (A7 U DM U (Ce U BC U (by rintro _ rfl; exact H.drew) at1 U ?_));refine AN U U (BA RA.F U AU Bz U U (by omega) (by omega) (by rfl) ?_);refine Ch U Bx U (by rintro _ rfl; exact (((RA.F.ext0 H.drew.ext).one (f:=QU) hx))) ?_;refine A7 U CW U (A7 U DM U (Ce U BC U (by rintro _ rfl; exact H.drew) at0 U ?_));refine AN U U (BA RB.F U AU Bz U U (by omega) (by omega) (by rfl) ?_);refine Ch U Bx U (by rintro _ rfl; exact (((RB.F.ext0 H.drew.ext).one (f:=QU) hx))) ?_;refine Mx U U U (Ca ?_);rintro _ rfl;replace H:=H.drew;refine Ay _ U ?_ ?_
     ·intro h4;replace h4:=CK h4;omega
     ·intro h4;replace h4:=CL h4;refine Ax (A3 (Aa (Aw (Ae U U (Ao U U U (by omega) (by omega) ?_)))));refine Ad U U (Ab (Aa ?_));exact ⟨i2+1,rfl,⟨rfl,trivial⟩,⟨by omega,H⟩,by omega⟩
    ·intro h3;replace h3:=AH h3;refine Bc (Aj (Aj (AD (Aa (Aq (Ag (Ad U U (Ab (Aa (Av (Bd 85070551165415408562502803963439480976 (α:=Nat) (fun i=>[(7,.int .i64 (i:Int))]) (fun i w'=>i≤r.pot.length∧Ctx w0 [] w' [(b3,Bl 33 (A8 r s)),(b2,Bl 33 (A8 r q))]) (fun i=>r.pot.length - i) 0 U ?_ ?_ ?_)))))))))))
     ·exact ⟨rfl,trivial⟩
     ·exact ⟨Nat.zero_le _,H⟩
     ·clear H;rintro i3 j3 w ⟨hii3,H⟩;refine Aq (Ag (Ae U U (Ah U CW U (Ah U EU U (AA U BC U H at1 U (AV U AU U (AO U U U (Ab (Aa (Ay _ U ?_ ?_))))))))))
      ·intro h4;replace h4:=AG h4;obtain ⟨x,hx⟩:=AE (l:=r.pot) (i:=i3) (by omega);refine Ax (Aa (Aq (Av (DQ (fun x=>x=_) B0 (by kernel_rfl) U ?_))));refine A7 U CW U (A7 U EU U (Ce U BC U (by rintro _ rfl; exact H.drew) at1 U ?_));refine AN U U (BA RA.P U AU Bz U U (by omega) (by omega) (by rfl) ?_);refine Ch U Bx U (by rintro _ rfl; exact (((RA.P.ext0 H.drew.ext).one (f:=QU) hx))) ?_;refine A7 U CW U (A7 U EU U (Ce U BC U (by rintro _ rfl; exact H.drew) at0 U ?_));refine AN U U (BA RB.P U AU Bz U U (by omega) (by omega) (by rfl) ?_);refine Ch U Bx U (by rintro _ rfl; exact (((RB.P.ext0 H.drew.ext).one (f:=QU) hx))) ?_;refine Mx U U U (Ca ?_);rintro _ rfl;replace H:=H.drew;refine Ay _ U ?_ ?_
       ·intro h5;replace h5:=CK h5;omega
       ·intro h5;replace h5:=CL h5;refine Ax (A3 (Aa (Aw (Ae U U (Ao U U U (by omega) (by omega) ?_)))));refine Ad U U (Ab (Aa ?_));exact ⟨i3+1,rfl,⟨rfl,trivial⟩,⟨by omega,H⟩,by omega⟩
      ·intro h4;replace h4:=AH h4;refine Bc (Aj (Aj (AD (Aa (Ag (Ai U U (Ab (Aa (A9 (AF (v:=(.bool _)) U U U ?_))))))))));exact ⟨rfl,H.ext⟩
/-- Is it more than is gone through? -/
def N8 (r:Rnd):Bool:=((decide (2000<r.es.length) || decide (2000<r.fl.length)) || decide (2000<r.pot.length)) || decide (200<r.ids.length)
theorem VN (N:Int) (a b:Option Addr) (n c m d:Nat) (w:World):Ret Tryz.prog 89 #[CT N a n c,.slice b m d] w fun v w'=>v = .bool (decide (2000<n) || decide (2000<m))∧Ext [] w w':=by
 obtain ⟨w0,rfl⟩:∃ w0,w0=w:=⟨_,rfl⟩;have H:=Ctx.start w0 [];refine A2 (fn:=Tryz.f89) Tryz.func89 U [CT N a n c,.slice b m d] U (by kernel_rfl) ?_;refine Ag (Bt U [.int .i64 N,.slice a n c] (.agg _) U U H ?_);rintro b2 w - H;refine Ai U U (Ab (Aa (Ag (Ah U BD U (AA U C5 U H at0 U (AV U BO U (Ct U U U (Ak U U (A4 9 U ?_ ?_)))))))))
 ·intro h1;replace h1:=AG h1;refine Af U (Af U (Af U (An U U (.bool _) U (Ai U U (Ab (Aa (A9 (AF (v:=(.bool _)) U U U ?_))))))));exact ⟨congrArg Value.bool (by rw [Bool.eq_iff_iff]; simp_all; try omega),H.ext⟩
 ·intro h2;replace h2:=AH h2;refine Ap U U (AV U AU U (Ct U U U (A1 U U (.bool _) U (Ai U U (Ab (Aa (A9 (AF (v:=(.bool _)) U U U ?_))))))));exact ⟨congrArg Value.bool (by rw [Bool.eq_iff_iff]; simp_all; try omega),H.ext⟩
theorem VO (r:Rnd) (q:RSl) (w:World):Ret Tryz.prog 33 #[.agg (A8 r q).toArray] w fun v w'=>v = .bool (N8 r)∧Ext [] w w':=by
 obtain ⟨w0,rfl⟩:∃ w0,w0=w:=⟨_,rfl⟩;have H:=Ctx.start w0 [];refine A2 (fn:=Tryz.f33) Tryz.func33 U [.agg (A8 r q).toArray] U (by kernel_rfl) ?_;refine Ag (Bt U (A8 r q) (.agg _) U U H ?_);rintro b1 w - H;refine Ai U U (Ab (Aa (Ag (B5 (α:=Unit) 4194300 (fun _=>[(2,.bool (N8 r))]) (fun _ w'=>Ctx w0 [] w' [(b1,Bl 33 (A8 r q))]) U ?_ ?_))))
 ·refine Ah U C4 U (Cd _ U C1 Cs U U ((BU (l:=A8 r q) (H.get at0) 4 [.int .i64 r.N,.slice q.aE r.es.length q.cE] U)) ?_);refine Ah U CW U (Ah U DM U (AA U BC U H at0 U (Al U ca_89 (VN r.N q.aE q.aF _ q.cE _ q.cF _) U ?_)));rintro v w ⟨rfl,hx8⟩;replace H:=H.call hx8;refine Ak U U (A4 9 U ?_ ?_)
  ·intro h1;refine Af U (Af U (Af U (Af U (Af U (An U U (.bool _) U (Ak U U (Af U (Af U (Af U ?_)))))))));refine Af U (An U U (.bool _) U (Ai U U (Ab ?_)));exact ⟨rfl,(),rfl,⟨congrArg Value.bool (by unfold N8; rw [Bool.eq_iff_iff]; simp_all; try omega),trivial⟩,H⟩
  ·intro h2;refine Ah U CW U (Ah U EU U (AA U BC U H at0 U (AV U AU U (Ct U U U (A1 U U (.bool _) U (Ak U U (A4 16 U ?_ ?_)))))))
   ·intro h3;replace h3:=AG h3;refine Af U (Af U (Af U (Af U (An U U (.bool _) U (Ai U U (Ab ?_))))));exact ⟨rfl,(),rfl,⟨congrArg Value.bool (by unfold N8; rw [Bool.eq_iff_iff]; simp_all; try omega),trivial⟩,H⟩
   ·intro h4;replace h4:=AH h4;refine Ah U Dk U (AA U DS U H at0 U (AV U Bf U (Ct U U U (A1 U U (.bool _) U (Ai U U (Ab ?_))))));exact ⟨rfl,(),rfl,⟨congrArg Value.bool (by unfold N8; rw [Bool.eq_iff_iff]; simp_all; try omega),trivial⟩,H⟩
 rintro - j2 w H;refine A9 (AF (v:=(.bool _)) U U U ?_);exact ⟨rfl,H.ext⟩
end Go.Proofs.YtapphbmlkdhnmaaGreat

/- What the form reads of this seat's arguments. -/
namespace Go.Proofs.YtapphbmlkdhnmaaGreat
open Go.GV Go.ChangeShapes Go.WideShapes

theorem own:ownKnob Tryz.prog.godebug=none:=by kernel_rfl
theorem Aaa:laidOutB Tryz.prog=true:=by kernel_rfl
section
variable {H:Type} {enc:TypeId × Value→H} {w:World} {base:Nat} {spare:Nat→Bool} {held:Bool}
/-- A field that is a slice. -/
theorem I9 {α:Type} {P:Program} {fuel:Nat} {t u e:TypeId} {s:Nat} {cs:List Value} {x:DataW H × List MemPlace} {fs:Array Field} {encd:α→List Value} {Good:α→Prop} (ht:P.underlying t=some (.struct fs)) (h:DataW.trod enc P w base spare held fuel t cs=some x) (i o:Nat)
  (hf:(fs[i]?.map fun f=>(f.type,f.offset))=some (u,o)) (hu:P.underlying u=some (.slice e)) (hc:P.cellsOf u=1) (hs:P.cellsOf e=s) (h0:0<s)
  (dec:∀ n cs y,DataW.trod enc P w base spare held n e cs=some y→∃ d,cs=encd d∧Good d) :
  ∃ (a:Option Addr) (c:Nat) (l:List α),cs[o]? = some (.slice a l.length c)∧Rd w a s encd l∧l.length≤c∧c≤maxLen∧(∀ d∈l,Good d):=by
 obtain ⟨n,y,h1⟩:=Py ht h i o hf;rw [hc] at h1
 have hv:∃ v,(cs.drop o).take 1=[v]:=by
  rcases Go.Deep.open_slice hu h1 with ⟨hc,-⟩ | ⟨_,_,_,_,_,_,_,hc,-⟩
  ·exact ⟨_,hc⟩
  ·exact ⟨_,hc⟩
 obtain ⟨v,hv⟩:=hv;rw [hv] at h1;obtain ⟨a,c,l,rfl,R,h2,h3,h4⟩:=Aam hu hs h0 dec h1;exact ⟨a,c,l,MO hv,R,h2,h3,h4⟩
theorem Y7:∃ fs,Tryz.prog.underlying 92=some (.struct fs)∧(List.range 4).map (fun i=>fs[i]?.map fun f=>(f.type,f.offset))=[some (3,0),some (3,1),some (2,2),some (2,3)]:=⟨_,Tryz.underlying92,by kernel_rfl⟩
theorem UC:Tryz.prog.cellsOf 92=4:=by kernel_rfl
theorem Sc:Tryz.prog.cellsOf 2=1:=by kernel_rfl
theorem Y8:Tryz.prog.cellsOf 24=1:=by kernel_rfl
theorem eds1:Tryz.prog.cellsOf 26=1:=by kernel_rfl
theorem Aa8:Tryz.prog.cellsOf 29=1:=by kernel_rfl
theorem u64s1:Tryz.prog.cellsOf 25=1:=by kernel_rfl
theorem VP:∃ fs,Tryz.prog.underlying 28=some (.struct fs)∧(List.range 2).map (fun i=>fs[i]?.map fun f=>(f.type,f.offset))=[some (3,0),some (26,1)]:=⟨_,Tryz.underlying28,by kernel_rfl⟩
theorem Y9:Tryz.prog.cellsOf 28=2:=by kernel_rfl
theorem TA:∃ fs,Tryz.prog.underlying 31=some (.struct fs)∧(List.range 2).map (fun i=>fs[i]?.map fun f=>(f.type,f.offset))=[some (29,0),some (29,1)]:=⟨_,Tryz.underlying31,by kernel_rfl⟩
theorem VQ:Tryz.prog.cellsOf 31=2:=by kernel_rfl
theorem Ph:∃ fs,Tryz.prog.underlying 33=some (.struct fs)∧(List.range 6).map (fun i=>fs[i]?.map fun f=>(f.type,f.offset))=[some (24,0),some (2,1),some (4,2),some (25,3),some (28,4),some (31,6)]:=⟨_,Tryz.underlying33,by kernel_rfl⟩
theorem YA:Tryz.prog.cellsOf 33=8:=by kernel_rfl
/-- What a due's numbers may be, as its type has it. -/
def DuT (d:Du):Prop:=(0≤d.id∧d.id<18446744073709551616)∧I64 d.fr∧I64 d.to∧I64 d.am∧I64 d.we∧I64 d.un
def EdT (e:Ed):Prop:=I64 e.f∧I64 e.t∧I64 e.cap∧I64 e.cost
theorem Aet:∀ n cs y,DataW.trod enc Tryz.prog w base spare held n 92 cs=some y→∃ d:Ed,cs=Br d∧EdT d:=by
 intro n cs y h;obtain ⟨fs,ht,hf⟩:=Y7;have hl:=Oj ht h;rw [UC] at hl;simp only [List.range,List.range.loop,List.map_cons,List.map_nil,List.cons.injEq,and_true] at hf;obtain ⟨f0,f1,f2,f3⟩:=hf;obtain ⟨a,ha,ha'⟩:=Iv ht h 0 0 f0 Tryz.underlying3;obtain ⟨b,hb,hb'⟩:=Iv ht h 1 1 f1 Tryz.underlying3;obtain ⟨c,hc,hc'⟩:=Iv ht h 2 2 f2 Tryz.underlying2;obtain ⟨d,hd,hd'⟩:=Iv ht h 3 3 f3 Tryz.underlying2;refine ⟨⟨a,b,c,d⟩,?_,ha',hb',hc',hd'⟩
 match cs,hl with
 | [_,_,_,_],_ =>
  simp at ha hb hc hd;simp [Br,ha,hb,hc,hd]
/-- What a round's numbers may be, as its type has it. -/
structure RT (r:Rnd):Prop where
 no:0≤r.no∧r.no<18446744073709551616
 day:I64 r.day
 ids:∀ x∈r.ids,0≤x∧x<18446744073709551616
 N:I64 r.N
 es:∀ e∈r.es,EdT e
 fl:∀ x∈r.fl,I64 x
 pot:∀ x∈r.pot,I64 x
theorem KT {cs:List Value} {o m j:Nat} {v:Value} (h:((cs.drop o).take m)[j]? = some v):cs[o+j]? = some v:=by
 rw [List.getElem?_take] at h
 split at h
 ·rw [List.getElem?_drop] at h; exact h
 ·cases h
theorem Aab:∀ n cs y,DataW.trod enc Tryz.prog w base spare held n 33 cs=some y→∃ (r:Rnd) (q:RSl),cs=A8 r q∧RAt w r q∧RT r∧r.es.length≤q.cE:=by
 intro n cs y h;obtain ⟨fs,ht,hf⟩:=Ph;have hl:=Oj ht h;rw [YA] at hl;simp only [List.range,List.range.loop,List.map_cons,List.map_nil,List.cons.injEq,and_true] at hf;obtain ⟨f0,f1,f2,f3,f4,f5⟩:=hf;obtain ⟨no,hno,no1,no2⟩:=Iv ht h 0 0 f0 Tryz.underlying24;obtain ⟨day,hday,hday'⟩:=Iv ht h 1 1 f1 Tryz.underlying2;obtain ⟨cmp,hcmp⟩:=Wv ht h 2 2 f2 Tryz.underlying4;obtain ⟨aI,cI,ids,hI,RI,-,-,gI⟩:=I9 ht h 3 3 f3 Tryz.underlying25 u64s1 Y8 (by decide) (LU Tryz.underlying24);obtain ⟨n4,y4,h4⟩:=Py ht h 4 4 f4;rw [Y9] at h4;obtain ⟨n5,y5,h5⟩:=Py ht h 5 6 f5;rw [VQ] at h5;obtain ⟨gs,gt,hg⟩:=VP;simp only [List.range,List.range.loop,List.map_cons,List.map_nil,List.cons.injEq,and_true] at hg;obtain ⟨g0,g1⟩:=hg;obtain ⟨N,hN,hN'⟩:=Iv gt h4 0 0 g0 Tryz.underlying3;obtain ⟨aE,cE,es,hE,RE,hec,-,gE⟩:=I9 gt h4 1 1 g1 Tryz.underlying26 eds1 UC (by decide) Aet;obtain ⟨ks,kt,hk⟩:=TA
 simp only [List.range,List.range.loop,List.map_cons,List.map_nil,List.cons.injEq,and_true] at hk;obtain ⟨k0,k1⟩:=hk;obtain ⟨aF,cF,fl,hF,RF,hfc,-,gF⟩:=I9 kt h5 0 0 k0 Tryz.underlying29 Aa8 Sc (by decide) (LU Tryz.underlying2);obtain ⟨aP,cP,pot,hP,RP,-,-,gP⟩:=I9 kt h5 1 1 k1 Tryz.underlying29 Aa8 Sc (by decide) (LU Tryz.underlying2);have e4:=KT hN;have e5:=KT hE;have e6:=KT hF;have e7:=KT hP;refine ⟨⟨no,day,cmp,ids,N,es,fl,pot⟩,⟨aI,cI,aE,cE,aF,cF,aP,cP⟩,?_,⟨RI,RE,RF,RP,hfc⟩,⟨⟨no1,by have a3:no≤18446744073709551615:=no2; dsimp only; omega⟩,hday',fun x hx=>?_,hN',gE,gF,gP⟩,hec⟩
 ·match cs,hl with
  | [_,_,_,_,_,_,_,_],_ =>
   simp at hno hday hcmp hI e4 e5 e6 e7;simp [hno,hday,hcmp,hI,e4,e5,e6,e7]
 ·have h1:=gI x hx;have h2:0≤x:=h1.1;have h3:x≤18446744073709551615:=h1.2;omega
set_option maxRecDepth 100000 in
theorem Aac {b:Nat} {v:Value} {d:DataW H} {ps:List MemPlace} (hv:Value.okWide Tryz.prog w .any b 33 v) (h:DataW.Trod enc Tryz.prog w base spare held 33 v d ps):∃ (r:Rnd) (q:RSl),v = .agg (A8 r q).toArray∧RAt w r q∧RT r∧r.es.length≤q.cE:=by
 obtain ⟨fs,ht,_⟩:=Ph;obtain ⟨cs,rfl,_⟩:=okWide_struct ht hv;obtain ⟨fuel,hf⟩:=h;obtain ⟨r,q,hx,h1,h2⟩:=Aab fuel cs.toList (d,ps) (by simpa [Value.cells] using hf);exact ⟨r,q,by rw [← hx],h1,h2⟩
theorem YB:∀ n cs y,DataW.trod enc Tryz.prog w base spare held n 5 cs=some y→∃ b:UInt8,cs=B8 b∧True:=by
 intro n cs y h;obtain ⟨d,rfl,h1,h2⟩:=LU Tryz.underlying5 n cs y h;have h1:(0:Int)≤d:=h1;have h2:d≤255:=h2;refine ⟨UInt8.ofNat d.toNat,?_,trivial⟩;have:(UInt8.ofNat d.toNat).toNat=d.toNat:=by simp [UInt8.toNat_ofNat']; omega
 rw [B8,bv,this,Int.toNat_of_nonneg h1]
theorem VR:Tryz.prog.cellsOf 5=1:=by kernel_rfl
set_option maxRecDepth 100000 in
theorem YC {b:Nat} {v:Value} {d:DataW H} {ps:List MemPlace} (hv:Value.okWide Tryz.prog w .any b 69 v) (h:DataW.Trod enc Tryz.prog w base spare held 69 v d ps):∃ a c l,v = .slice a l.length c∧Rd w a 1 B8 l∧l.length≤c:=by
 obtain ⟨a,c,l,h1,h2,hc,-,-⟩:=YY Tryz.underlying69 VR (by decide) YB (okWide_slice Tryz.underlying69 hv) h;exact ⟨a,c,l,h1,h2,hc⟩
end
end Go.Proofs.YtapphbmlkdhnmaaGreat

/- The law of what any round and any bytes are told to be: the walk. -/
namespace Go.Proofs.YtapphbmlkdhnmaaGreat
open Go.GV
attribute [local irreducible] AC W Wq Wt

theorem TL {P:Program} {ops rest:List Oper} {e:Env} {dst:Option Tmp} {ty:TypeId} {pos:String} {af:Array Edge} {g:Option (Nat × Bool)} {C:World→Prop} {K:Env→Prop} {t t2:TypeId} {x y:Operand} {l m:List UInt8} (hg:AM ⟨dst,.binOp .neq t x y t2,ty,pos,af,g⟩ ops e=true) (hx:ev e x=str l) (hy:ev e y=str m)
  (h:Wt P ops C K rest (put e dst (.bool (!decide (l=m))))):Wt P ops C K (⟨dst,.binOp .neq t x y t2,ty,pos,af,g⟩::rest) e :=
 Ey hg (fun w _=>by
  have hq:eqGuard .neq t x y (.string ⟨l.toArray⟩) (.string ⟨m.toArray⟩)=pure ():=rfl
  simp only [execOp,hx,hy,hq,Sem.run_bind,Sem.run_pure,Result.andThen_ok,binOp,str,Op.stringOp,LQ]) h
theorem Aeu {P:Program} {ops rest:List Oper} {e:Env} {dst:Option Tmp} {ty:TypeId} {pos:String} {af:Array Edge} {g:Option (Nat × Bool)} {C:World→Prop} {K:Env→Prop} {t t2:TypeId} {x y:Operand} {a b:Bool} (ht:P.underlying t=some .bool) (hg:AM ⟨dst,.binOp .neq t x y t2,ty,pos,af,g⟩ ops e=true) (hx:ev e x = .bool a) (hy:ev e y = .bool b)
  (h:Wt P ops C K rest (put e dst (.bool (!(a == b))))):Wt P ops C K (⟨dst,.binOp .neq t x y t2,ty,pos,af,g⟩::rest) e :=
 Ey hg (fun w _=>by
  have hq:eqGuard .neq t x y (.bool a) (.bool b)=pure ():=rfl;have he:∀ d w,(Op.equalIn (d+1) t (.bool a) (.bool b)).run P w = .ok (a == b) w:=fun d w=>by simp [Op.equalIn,Bb ht]
  simp only [execOp,hx,hy,hq,Sem.run_bind,Sem.run_pure,Result.andThen_ok,binOp,Op.equal,Op.maxDepth,he 9999]) h
def Sd (l:List UInt8):Rnd:=if Hz l=true then LJ l else EY
def YD (l:List UInt8):Int:=if Hz l=true then 0 else 5
theorem UD {l:List UInt8} {w w':World} {v:Value} (h:GetRes l w w' v):∃ q,v = .tuple #[.agg (A8 (Sd l) q).toArray,.int .i64 (YD l)]∧RAt w' (Sd l) q:=by
 unfold Sd YD
 cases hb:Hz l with
 | true =>
  obtain ⟨q,h1,h2,-⟩:=h.ok hb;exact ⟨q,h1,h2⟩
 | false =>
  exact ⟨E0,h.no hb,⟨Rd.nil,Rd.nil,Rd.nil,Rd.nil,Nat.le_refl _⟩⟩
theorem Aev {r:Rnd} (W:WR r):RBnd r:=by
 have h1:=W.N1;have h2:=W.N17;have h3:=W.d64;have h4:=W.e200;have h5:=W.len;have h6:=W.pot;exact ⟨⟨by omega,by omega⟩,by omega,by omega,by omega,by omega⟩
theorem Aad (l:List UInt8):RBnd (Sd l):=by
 unfold Sd
 cases hb:Hz l with
 | true=>exact Aev (HZ (UB hb).2.1)
 | false =>
  rw [if_neg (by decide)];exact ⟨⟨by decide,by decide⟩,by decide,by decide,by decide,by decide⟩
def TB (r:Rnd):List UInt8:=if Bw r=true then Fa r else []
def YE (r:Rnd):Int:=if Bw r=true then 0 else 1
theorem UE {r:Rnd} {w w':World} {v:Value} (hT:Bw r=true→∃ s,v = .tuple #[s,.int .i64 0]∧Fresh w w' 5 1 s ((Fa r).map bv)) (hF:Bw r=false→v = .tuple #[.slice none 0 0,.int .i64 1]∧Ext [] w w') :
  ∃ (a:Option Addr) (c:Nat),v = .tuple #[.slice a (TB r).length c,.int .i64 (YE r)]∧Rd w' a 1 B8 (TB r)∧Ext [] w w'∧(TB r).length≤c:=by
 unfold TB YE
 cases h:Bw r with
 | true =>
  obtain ⟨s,rfl,F⟩:=hT h;obtain ⟨a,n,c,full,rfl,O,hb⟩:=F.ex;obtain ⟨a',c',e,R,-⟩:=Fresh.rdB F;cases e;exact ⟨a,c,rfl,R,F.ext,O.le⟩
 | false =>
  obtain ⟨rfl,hx⟩:=hF h;exact ⟨none,0,rfl,Rd.nil,hx,Nat.le_refl _⟩
set_option maxRecDepth 20000 in
set_option maxHeartbeats 8000000 in
theorem Se (r:Rnd) (q:RSl) (a:Option Addr) (c:Nat) (l:List UInt8) (id bank:Int) (w:World) (RA:RAt w r q) (hT:RT r) (hEc:r.es.length≤q.cE) (R:Rd w a 1 B8 l) (hc:l.length≤c) :
  Ret Tryz.prog 7 #[.agg (A8 r q).toArray,.slice a l.length c,.int .u64 id,.int .i64 bank] w fun v w'=>v = .bool true∧Ext [] w w':=by
 obtain ⟨w0,rfl⟩:∃ w0,w0=w:=⟨_,rfl⟩;have H:=Ctx.start w0 [];refine A2 (fn:=Tryz.f7) Tryz.func7 U [.agg (A8 r q).toArray,.slice a l.length c,.int .u64 id,.int .i64 bank] U (by kernel_rfl) ?_;refine Ag (Bt U (A8 r q) (.agg _) U U H ?_);rintro b4 w - H;refine Ai U U (Ab (Aa (Aq ?_)));have hb4:=H.get at0;have hx0:=H.ext;obtain ⟨w1,rfl⟩:∃ z,z=w:=⟨_,rfl⟩;clear H;have H:=Ctx.start w1 [];replace RA:=RA.ext0 hx0;replace R:=R.ext0 hx0;refine Ag (B5 (α:=Unit) 69818988363776 (fun _=>[(45,.bool (N8 r || decide (8192<l.length)))]) (fun _ w'=>Ctx w1 [] w' []) U ?_ ?_)
 ·refine Cd _ U Cq BW U U ((BU (l:=A8 r q) (H.ext.to hb4 (by simp)) 0 (A8 r q) U)) ?_;refine Al U ca_33 (VO r q _) U ?_;rintro v w ⟨rfl,hx40⟩;replace H:=H.call hx40;refine Ak U U (A4 41 U ?_ ?_)
  ·intro h1;refine Af U (Af U (Af U (An U U (.bool _) U (Ab ?_))));exact ⟨rfl,(),rfl,⟨congrArg Value.bool (by (rw [Bool.eq_iff_iff]; simp_all; done)),trivial⟩,H⟩
  ·intro h2;refine Ap U U (AV U C6 U (Ct U U U (A1 U U (.bool _) U (Ab ?_))));exact ⟨rfl,(),rfl,⟨congrArg Value.bool (by (rw [Bool.eq_iff_iff]; simp_all; omega)),trivial⟩,H⟩
 rintro - j45 w H;refine Ay _ U ?_ ?_
 ·intro h1;refine Ag (Al U Aan (N7 _) U ?_);rintro v w ⟨rfl,hx46⟩;replace H:=H.call hx46;refine Ai U U (Ab (Aa (A9 (Am (AF (v:=(.bool _)) U U U ?_)))));exact ⟨rfl,hx0.trans H.ext⟩
 ·intro h1
  have hsz:r.es.length≤2000∧r.fl.length≤2000∧r.pot.length≤2000∧r.ids.length≤200∧l.length≤8192:=by
   unfold N8 at h1;simp only [Bool.or_eq_false_iff,decide_eq_false_iff_not] at h1;omega
  have hB:RBnd r:=⟨hT.N,by omega,by omega,by omega,by omega⟩;have hU:WU r:=⟨hT.no,hT.ids,by have:=hT.day.2; omega⟩;have hoff:∀ {z:World},Ext [] w1 z→l≠[]→(adr a).block<z.heap.size:=fun h hl=>Nat.lt_of_lt_of_le (R.lt' (fun _ _=>rfl) (by decide) hl) h.size;refine Ax (Aa (Ag (Cd _ U Cq BW U U ((BU (l:=A8 r q) (H.ext.to hb4 (by simp)) 0 (A8 r q) U)) ?_)));refine Al U WK (Qd r q _ (RA.ext0 H.ext) hEc hB hU) U ?_;rintro v w ⟨hT9,hF9⟩;obtain ⟨aA,cA,rfl,RX,hx49,-⟩:=UE hT9 hF9;replace H:=H.call hx49;refine BK U U (A6 (v := .slice aA (TB r).length cA) U U U (A6 (v := .int .i64 (YE r)) U U U (A5 U U (Ad U U (Ab (Aa (Ag (Cd _ U Cq BW U U ((BU (l:=A8 r q) (H.ext.to hb4 (by simp)) 0 (A8 r q) U)) ?_))))))));refine Al U Aap (U7 r q _ (RA.ext0 H.ext) hEc hB hU) U ?_;rintro v w ⟨hT9,hF9⟩;obtain ⟨aB,cB,rfl,RY,hx54,-⟩:=UE hT9 hF9;replace H:=H.call hx54;replace RX:=RX.ext0 hx54
  refine BK U U (A6 (v := .slice aB (TB r).length cB) U U U (A6 (v := .int .i64 (YE r)) U U U (A5 U U (Ad U U (Ab (Aa ?_))))));have hx1:=hx0.trans H.ext;have hxa:=H.ext;obtain ⟨w2,rfl⟩:∃ z,z=w:=⟨_,rfl⟩;clear H;have H:=Ctx.start w2 [];refine Ag (HC U C6 FO H ?_);rintro b58 w H O;refine Ap U U (Dt U C6 C6 FO P0 IZ U (by decide) (l.map bv) U U H O (by simp) (one3 l) (Rd.app1 (f:=bv) (R.ext0 (hxa.trans H.ext))) (by omega) ?_);rintro a60 c60 full60 w H O;rw [List.nil_append,Nat.zero_add l.length] at O;rw [Nat.zero_add l.length];obtain ⟨a61,c61,e61,R61,-⟩:=Fresh.rdB (H.fresh O);have hle60:=O.le;cases e61;refine Al U Aao (UA a60 c60 l _ R61 (by omega) (by omega) (fun hl=>R61.lt' (fun _ _=>rfl) (by decide) hl)) U ?_;rintro v w ⟨hg1,hg2⟩;have hG:=Y3 hg1 hg2;obtain ⟨q13,rfl,R13⟩:=UD hG;replace H:=H.call hG.ext;have hxb:=H.ext;obtain ⟨w3,rfl⟩:∃ z,z=w:=⟨_,rfl⟩;replace H:=Ctx.start w3 []
  refine BK U U (A6 (v := .agg (A8 (Sd l) q13).toArray) U U U (A6 (v := .int .i64 (YD l)) U U U (Bs U Gk H ?_)));rintro b13 w - H;refine BL U BW U U U (by exact (by simp [B4])) H at0 U ?_;rintro w H;refine Ad U U (Ab (Aa ?_));have hxc:Ext [] w1 w:=hxa.trans (hxb.trans H.ext);refine Ag (Ap U U (Al U ca_35 (ZX a c l _ (R.ext0 hxc) hc (by omega) (hoff hxc)) U ?_));rintro v w hG;obtain ⟨q15,rfl,R15⟩:=UD hG;replace H:=H.call hG.ext;have hb13:=H.get at0;replace R13:=R13.ext0 H.ext;have hxd:=hxb.trans H.ext;obtain ⟨w4,rfl⟩:∃ z,z=w:=⟨_,rfl⟩;replace H:=Ctx.start w4 [];refine BK U U (A6 (v := .agg (A8 (Sd l) q15).toArray) U U U (A6 (v := .int .i64 (YD l)) U U U (Bs U Gk H ?_)));rintro b15 w - H;refine BL U BW U U U (by exact (by simp [B4])) H at0 U ?_;rintro w H;refine Ad U U (Ab (Aa (Aq ?_)));have hb15:=H.get at0;have hxe:=hxd.trans H.ext;have hb4':=(hxa.trans hxe).to hb4 (by simp)
  have hb13':=H.ext.to hb13 (by simp);replace R13:=R13.ext0 H.ext;replace R15:=R15.ext0 H.ext;replace RX:=RX.ext0 hxe;replace RY:=RY.ext0 hxe;replace RA:=RA.ext0 (hxa.trans hxe);have hx2:=hx1.trans hxe;have hgb:=Aad l;obtain ⟨gr,hgr⟩:∃ gr,gr=Sd l:=⟨_,rfl⟩;obtain ⟨gc,hgc⟩:∃ gc,gc=YD l:=⟨_,rfl⟩;obtain ⟨ps,hps⟩:∃ ps,ps=TB r:=⟨_,rfl⟩;obtain ⟨pc,hpc⟩:∃ pc,pc=YE r:=⟨_,rfl⟩;rw [← hgr] at hb13' hb15 R13 R15 hgb;rw [← hps] at RX RY ⊢;rw [← hpc,← hgc];obtain ⟨w5,rfl⟩:∃ z,z=w:=⟨_,rfl⟩;clear H;have H:=Ctx.start w5 [];refine CI [([0,2],1),([],3),([4,5,6,7,8,9,10,11,12,13,14,15,16,17,18,19,20,21,22,23,24],25),([26],27)] (fun z=>Ext [] w5 z) [] B0 (by kernel_rfl) (H.drew.ext) ?_;refine AL U U ?_;refine Fb _ U Cq BW U U (fun _ hx=>(BU (l:=A8 r q) (hx.to hb4' (by simp)) 0 (A8 r q) rfl)) ?_;refine Fb _ U Cq BW U U (fun _ hx=>(BU (l:=A8 r q) (hx.to hb4' (by simp)) 0 (A8 r q) rfl)) ?_;refine Bu ?_
  replace H:=H.drew;refine Al U MQ (FV r q _ (RA.ext0 H.ext) hEc hB) U ?_;rintro v w ⟨rfl,hx70⟩;replace H:=H.call hx70;refine Ab (BH (H.ext) (AL U U ?_));refine Bu (Al U Oo (G9 r q _ (RA.ext0 H.ext) hEc hB) U ?_);rintro v w ⟨rfl,hx72⟩;replace H:=H.call hx72;refine Ab (BH (H.ext) (AL U U ?_));refine Aeu un_4 U U U ?_;refine Ir U U (GI 74 U ?_ ?_)
  ·intro g1;exact absurd g1 (by simp)
  ·intro g1;refine Bq U U (We (l:=ps) U C6 Gj SP U (fun w hx=>RX.ext0 hx) ?_);refine Bq U U (We (l:=ps) U C6 Gj SP U (fun w hx=>RY.ext0 hx) ?_);refine TL (l:=ps) (m:=ps) U U U ?_;refine Pu U U (.bool _) U (Ir U U (GI 81 U ?_ ?_))
   ·intro g2;exact absurd g2 (by simp)
   ·intro g2;refine AP U U (AP U U (Aak U U U (Pu U U (.bool _) U (Ir U U (GI 86 U ?_ ?_)))))
    ·intro g3;replace g3:=CK g3;exact absurd g3 (by simp)
    ·intro g3;replace g3:=CL g3;refine AP U U (AP U U (Aak U U U (Pu U U (.bool _) U (Ir U U (GI 91 U ?_ ?_)))))
     ·intro g4;replace g4:=CK g4;exact absurd g4 (by simp)
     ·intro g4;replace g4:=CL g4;refine Fb _ U Cq BW U U (fun _ hx=>(BU (l:=A8 gr q13) (hx.to hb13' (by simp)) 0 (A8 gr q13) rfl)) ?_;refine Fb _ U Cq BW U U (fun _ hx=>(BU (l:=A8 gr q15) (hx.to hb15 (by simp)) 0 (A8 gr q15) rfl)) ?_;refine Bu (Al U ca_32 (VM gr q13 q15 _ (R13.ext0 H.ext) (R15.ext0 H.ext) hgb) U ?_);rintro v w ⟨rfl,hx94⟩;replace H:=H.call hx94;refine Ab (BH (H.ext) (AL U U ?_));refine t_not U U (Bu (A1 U U (.bool _) U (Ab (BH (H.ext) (BS (Ay _ U ?_ ?_))))))
      ·intro g5;replace g5:=Bo g5;exact absurd g5 (by simp)
      ·intro g5;replace g5:=Bp g5
       have hrl:(He r).1.length≤1000∧(He r).2.1.length≤1000:=by
        unfold He
        cases hw:Bw r with
        | true =>
         have W:=HZ hw;have h1:=W.N17;have h2:=W.d64;rw [if_pos rfl];dsimp only;rw [FX];unfold Gx;rw [CV];omega
        | false =>
         rw [if_neg (by decide)];exact ⟨by decide,by decide⟩
       obtain ⟨du,hdu⟩:∃ du,du=He r:=⟨_,rfl⟩;obtain ⟨pd,hpd⟩:∃ pd,pd=Ia r id:=⟨_,rfl⟩;obtain ⟨bk,hbk⟩:∃ bk,bk=Ic r bank:=⟨_,rfl⟩;obtain ⟨wo,hwo⟩:∃ wo,wo=FW r:=⟨_,rfl⟩;rw [← hdu] at hrl;refine Ax (Aa (Ag (Cd _ U Cq BW U U ((BU (l:=A8 r q) (H.ext.to hb4' (by simp)) 0 (A8 r q) U)) ?_)));refine Al U ca_37 (Yp r q _ (RA.ext0 H.ext) hEc hB) U ?_;rintro v w ⟨vR,vD,rfl,hvR,hvD,hx99⟩;rw [← hdu] at hvR hvD ⊢;obtain ⟨aR,cR,rfl,-,RR,-⟩:=hvR;obtain ⟨aD,cD,rfl,-,RD,-⟩:=hvD;replace H:=H.call hx99;refine BK U U (A6 (v := .slice aR du.1.length cR) U U U (A6 (v := .slice aD du.2.1.length cD) U U U (A6 (v := .int .i64 du.2.2) U U U (A5 U U (A5 U U (Ad U U (Ab (Aa (Ag (Cd _ U Cq BW U U ((BU (l:=A8 r q) (H.ext.to hb4' (by simp)) 0 (A8 r q) U)) ?_))))))))));refine Al U ca_38 (Yq r q _ (RA.ext0 H.ext) hEc hB) U ?_;rintro v w ⟨vR,vD,rfl,hvR,hvD,hx105⟩;rw [← hdu] at hvR hvD ⊢;obtain ⟨aS,cS,rfl,-,RS,-⟩:=hvR
       obtain ⟨aT,cT,rfl,-,RT',-⟩:=hvD;replace H:=H.call hx105;replace RR:=RR.ext0 hx105;replace RD:=RD.ext0 hx105;refine BK U U (A6 (v := .slice aS du.1.length cS) U U U (A6 (v := .slice aT du.2.1.length cT) U U U (A6 (v := .int .i64 du.2.2) U U U (A5 U U (A5 U U (Ad U U (Ab (Aa ?_))))))));have hb4'':=H.ext.to hb4' (by simp);replace RA:=RA.ext0 H.ext;have hx3:=hx2.trans H.ext;obtain ⟨w6,rfl⟩:∃ z,z=w:=⟨_,rfl⟩;clear H;have H:=Ctx.start w6 [];refine Ag (Cd _ U Cq BW U U ((BU (l:=A8 r q) (H.ext.to hb4'' (by simp)) 0 (A8 r q) U)) ?_);refine Ae U U (Al U WL (Nt r q id _ (RA.ext0 H.ext) hEc hB) U ?_);rintro v w ⟨rfl,hx112⟩;rw [← hpd];replace H:=H.call hx112;refine BK U U (A6 (v := .int .i64 pd.1) U U U (A6 (v := .int .i64 pd.2.1) U U U (A6 (v := .int .i64 pd.2.2) U U U (Ad U U (Ad U U (Ad U U (Ab (Aa (Ag (Cd _ U Cq BW U U ((BU (l:=A8 r q) (H.ext.to hb4'' (by simp)) 0 (A8 r q) U)) ?_))))))))))
       refine Ae U U (Al U ca_40 (XY r q id _ (RA.ext0 H.ext) hEc hB) U ?_);rintro v w ⟨rfl,hx119⟩;rw [← hpd];replace H:=H.call hx119;refine BK U U (A6 (v := .int .i64 pd.1) U U U (A6 (v := .int .i64 pd.2.1) U U U (A6 (v := .int .i64 pd.2.2) U U U (Ad U U (Ad U U (Ad U U (Ab (Aa (Aq (Ag (B5 (α:=Unit) 713623835719155974249816001494291085948616704 (fun _=>[(148,.bool (false))]) (fun _ w'=>Ctx w6 [] w' []) U ?_ ?_)))))))))))
       ·refine Ae U U (Ae U U (CC U U U (Ak U U (A4 126 U ?_ ?_))))
        ·intro h3;replace h3:=CK h3;refine Af U (Af U (Af U (Af U (Af U (Af U (An U U (.bool _) U (Ak U U (Af U (Af U ?_)))))))));refine Af U (An U U (.bool _) U (Ak U U (Af U (Af U (Af U (An U U (.bool _) U (Ak U U (Af U (Af U ?_)))))))));refine Af U (An U U (.bool _) U (Ab ?_));exact ⟨rfl,(),rfl,⟨congrArg Value.bool (by (simp_all; done)),trivial⟩,H⟩
        ·intro h4;replace h4:=CL h4;refine Ap U U (Ap U U (Ap U U (Ap U U (Al U ca_41 (VL aR aS aD aT _ cR _ cS _ cD _ cT du.1 du.2.1 _ (RR.ext0 H.ext) U (by omega) (RS.ext0 H.ext) U (RD.ext0 H.ext) U (by omega) (RT'.ext0 H.ext) U) U ?_))));rintro v w ⟨rfl,hx131⟩;replace H:=H.call hx131;refine Bv U U (A1 U U (.bool _) U (Ak U U (A4 134 U ?_ ?_)))
         ·intro h5;replace h5:=Bo h5;refine Af U (Af U (Af U (An U U (.bool _) U (Ak U U (Af U (Af U (Af U (An U U (.bool _) U (Ak U U ?_)))))))));refine Af U (Af U (Af U (An U U (.bool _) U (Ab ?_))));exact ⟨rfl,(),rfl,⟨congrArg Value.bool (by (simp_all; done)),trivial⟩,H⟩
         ·intro h6;replace h6:=Bp h6;refine Ae U U (Ae U U (CC U U U (A1 U U (.bool _) U (Ak U U (A4 139 U ?_ ?_)))))
          ·intro h7;replace h7:=CK h7;refine Af U (Af U (Af U (An U U (.bool _) U (Ak U U (Af U (Af U (Af U (An U U (.bool _) U (Ab ?_)))))))));exact ⟨rfl,(),rfl,⟨congrArg Value.bool (by (simp_all; done)),trivial⟩,H⟩
          ·intro h8;replace h8:=CL h8;refine Ae U U (Ae U U (CC U U U (A1 U U (.bool _) U (Ak U U (A4 144 U ?_ ?_)))))
           ·intro h9;replace h9:=CK h9;refine Af U (Af U (Af U (An U U (.bool _) U (Ab ?_))));exact ⟨rfl,(),rfl,⟨congrArg Value.bool (by (simp_all; done)),trivial⟩,H⟩
           ·intro h10;replace h10:=CL h10;refine Ae U U (Ae U U (CC U U U (A1 U U (.bool _) U (Ab ?_))));exact ⟨rfl,(),rfl,⟨congrArg Value.bool (by (simp; done)),trivial⟩,H⟩
       rintro - j148 w H;refine EQ U (Ax (Aa (Ag (Cd _ U Cq BW U U ((BU (l:=A8 r q) (H.ext.to hb4'' (by simp)) 0 (A8 r q) U)) ?_))));refine Ae U U (Al U WM (Nv r q bank _ (RA.ext0 H.ext) hEc hB) U ?_);rintro v w ⟨rfl,hx152⟩;rw [← hbk];replace H:=H.call hx152;refine BK U U (A6 (v := .int .i64 bk.1) U U U (A6 (v := .int .i64 bk.2.1) U U U (A6 (v := .int .i64 bk.2.2) U U U (Ad U U (Ad U U (Ad U U (Ab (Aa (Ag (Cd _ U Cq BW U U ((BU (l:=A8 r q) (H.ext.to hb4'' (by simp)) 0 (A8 r q) U)) ?_))))))))));refine Ae U U (Al U ca_43 (Yd r q bank _ (RA.ext0 H.ext) hEc hB) U ?_);rintro v w ⟨rfl,hx159⟩;rw [← hbk];replace H:=H.call hx159;refine BK U U (A6 (v := .int .i64 bk.1) U U U (A6 (v := .int .i64 bk.2.1) U U U (A6 (v := .int .i64 bk.2.2) U U U (Ad U U (Ad U U (Ad U U (Ab (Aa (Ag (Cd _ U Cq BW U U ((BU (l:=A8 r q) (H.ext.to hb4'' (by simp)) 0 (A8 r q) U)) ?_))))))))))
       refine Al U Aaq (OY r q _ (RA.ext0 H.ext) hEc hB) U ?_;rintro v w ⟨rfl,hx165⟩;rw [← hwo];replace H:=H.call hx165;refine BK U U (A6 (v := .int .i64 wo.1) U U U (A6 (v := .int .i64 wo.2) U U U (Ad U U (Ad U U (Ab (Aa (Ag (Cd _ U Cq BW U U ((BU (l:=A8 r q) (H.ext.to hb4'' (by simp)) 0 (A8 r q) U)) ?_))))))));refine Al U ca_45 (VC r q _ (RA.ext0 H.ext) hEc hB) U ?_;rintro v w ⟨rfl,hx170⟩;rw [← hwo];replace H:=H.call hx170;refine BK U U (A6 (v := .int .i64 wo.1) U U U (A6 (v := .int .i64 wo.2) U U U (Ad U U (Ad U U (Ab (Aa (Ag (B5 (α:=Unit) 803469010156873724756224340245995151649310999869997025591552 (fun _=>[(8,.bool (true))]) (fun _ w'=>Ctx w6 [] w' []) U ?_ ?_))))))))
       ·refine Ae U U (Ae U U (BQ U U U (Ak U U (A4 176 U ?_ ?_))))
        ·intro h11;replace h11:=AG h11;refine Ae U U (Ae U U (BQ U U U (An U U (.bool _) U (Ak U U (A4 181 U ?_ ?_)))))
         ·intro h12;replace h12:=AG h12;refine Ae U U (Ae U U (BQ U U U (An U U (.bool _) U (Ak U U (A4 186 U ?_ ?_)))))
          ·intro h13;replace h13:=AG h13;refine Ae U U (Ae U U (BQ U U U (An U U (.bool _) U (Ak U U (A4 191 U ?_ ?_)))))
           ·intro h14;replace h14:=AG h14;refine Ae U U (Ae U U (BQ U U U (An U U (.bool _) U (Ak U U (A4 196 U ?_ ?_)))))
            ·intro h15;replace h15:=AG h15;refine Al U Aan (N7 _) U ?_;rintro v w ⟨rfl,hx197⟩;replace H:=H.call hx197;refine An U U (.bool _) U (Ai U U (Ab ?_));exact ⟨rfl,(),rfl,⟨congrArg Value.bool (by rfl),trivial⟩,H⟩
            ·intro h16;replace h16:=AH h16;refine Af U (A1 U U (.bool _) U (Ai U U (Ab ?_)));exact ⟨rfl,(),rfl,⟨congrArg Value.bool (by (simp_all; done)),trivial⟩,H⟩
           ·intro h17;replace h17:=AH h17;refine Af U (Af U (Af U (A1 U U (.bool _) U (Ak U U (Af U (A1 U U (.bool _) U (Ai U U (Ab ?_))))))));exact ⟨rfl,(),rfl,⟨congrArg Value.bool (by (simp_all; done)),trivial⟩,H⟩
          ·intro h18;replace h18:=AH h18;refine Af U (Af U (Af U (A1 U U (.bool _) U (Ak U U (Af U (Af U (Af U (A1 U U (.bool _) U (Ak U U ?_)))))))));refine Af U (A1 U U (.bool _) U (Ai U U (Ab ?_)));exact ⟨rfl,(),rfl,⟨congrArg Value.bool (by (simp_all; done)),trivial⟩,H⟩
         ·intro h19;replace h19:=AH h19;refine Af U (Af U (Af U (A1 U U (.bool _) U (Ak U U (Af U (Af U (Af U (A1 U U (.bool _) U (Ak U U ?_)))))))));refine Af U (Af U (Af U (A1 U U (.bool _) U (Ak U U (Af U (A1 U U (.bool _) U (Ai U U (Ab ?_))))))));exact ⟨rfl,(),rfl,⟨congrArg Value.bool (by (simp_all; done)),trivial⟩,H⟩
        ·intro h20;replace h20:=AH h20;refine Af U (Af U (Af U (A1 U U (.bool _) U (Ak U U (Af U (Af U (Af U (A1 U U (.bool _) U (Ak U U ?_)))))))));refine Af U (Af U (Af U (A1 U U (.bool _) U (Ak U U (Af U (Af U (Af U (A1 U U (.bool _) U (Ak U U ?_)))))))));refine Af U (A1 U U (.bool _) U (Ai U U (Ab ?_)));exact ⟨rfl,(),rfl,⟨congrArg Value.bool (by (simp_all; done)),trivial⟩,H⟩
       rintro - j8 w H;refine A9 (AF (v:=(.bool _)) U U U ?_);exact ⟨rfl,hx3.trans H.ext⟩
end Go.Proofs.YtapphbmlkdhnmaaGreat

/- WitnessPlays: for every input the law answers true, and turns nothing. -/
namespace Go.Proofs.YtapphbmlkdhnmaaGreat
open Go.GV Go.ChangeShapes Go.WideShapes Go.RowKit

set_option maxRecDepth 100000 in
theorem JK (os:Os) (started:os.Started) (H:Type) (enc:TypeId × Value→H) :
  ReturnsInHanded {} Tryz.checked os 7 .any (Rows.witnessPlaysSpec.pre6 enc Tryz.prog Tryz.f7 Rows.witnessPlaysRow.domain false) (Rows.witnessPlaysSpec.post enc Tryz.prog Tryz.f7 false true false false):=by
 refine returnsInHanded_of_change (C:=Tryz.checked) own started (by kernel_rfl) Tryz.func7
  (ChangeSpec.witness6 (enc:=enc) (C:=Tryz.checked) false ⟨#[],#[.agg #[.int .u64 0,.int .i64 0,.bool false,.slice none 0 0,.int .i64 0,.slice none 0 0,.slice none 0 0,.slice none 0 0],.slice none 0 0,.int .u64 0,.int .i64 0],[]⟩ 8 (by kernel_rfl) (by kernel_rfl) (by kernel_rfl) (by kernel_rfl)) ?_
 intro W base args ds gs before hval0 hW hcnd _;have hval:∀ (j:Nat) t v,Tryz.f7.params[j]? = some t→args[j]? = some v→Value.okWide Tryz.prog W .any base t v:=hval0;have hW':=hW;obtain ⟨p,q,hA0,hV,rfl,hfz,hnd⟩:=hW;have hA:DataW.TrodAll enc Tryz.prog W 0 (fun _=>true) true Tryz.f7.params.toList args.toList ds p:=hA0;rw [Tryz.params7] at hA hval;obtain ⟨v0,vs0,d0,ds0,p0,q0,hargs,rfl,rfl,h0,r0⟩:=trodAll_cons hA;obtain ⟨v1,vs1,d1,ds1,p1,q1,rfl,rfl,rfl,h1,r1⟩:=trodAll_cons r0;obtain ⟨v2,vs2,d2,ds2,p2,q2,rfl,rfl,rfl,h2,r2⟩:=trodAll_cons r1;obtain ⟨v3,vs3,d3,ds3,p3,q3,rfl,rfl,rfl,h3,r3⟩:=trodAll_cons r2;obtain ⟨rfl,rfl,rfl⟩:=trodAll_nil r3;obtain rfl:args=#[v0,v1,v2,v3]:=by cases args; simp_all
 obtain ⟨rr0,qq0,rfl,R0,H0⟩:=Aac (hval 0 _ v0 rfl rfl) h0;obtain ⟨a1,c1,l1,rfl,R1,H1⟩:=YC (hval 1 _ v1 rfl rfl) h1;obtain ⟨k2,rfl,rfl,rfl,hg2⟩:=open_int Tryz.underlying24 (hval 2 _ v2 rfl rfl) h2;have hb2:0≤k2∧k2≤18446744073709551615:=J3 hg2;obtain ⟨k3,rfl,rfl,rfl,hg3⟩:=open_int Tryz.underlying3 (hval 3 _ v3 rfl rfl) h3;have hb3 : -9223372036854775808≤k3∧k3≤9223372036854775807:=J3 hg3;refine (Se rr0 qq0 a1 c1 l1 k2 k3 W R0 H0.1 H0.2 R1 H1).calls.mono ?_;rintro e W' ⟨v,rfl,rfl,hx⟩;exact ⟨_,rfl,Wu Aaa U (by kernel_rfl) U Tryz.underlying4 (fun ds h=>match ds,h with | [_,_,_,_],_=>rfl) hW' hx⟩

theorem witnessPlays_holds:Rows.WitnessPlaysSaid :=
 OpenClaim.holds_of_wide 7 Tryz.f7 rfl rfl rfl rfl rfl rfl rfl ⟨rfl,rfl,rfl,rfl,rfl⟩ rfl rfl rfl rfl rfl (by kernel_rfl) Tryz.func7 (by kernel_rfl)
  (of_decide_eq_true (by kernel_rfl)) (by unfold Func.isWrapper; rw [if_neg (of_decide_eq_false (by kernel_rfl))]; exact ⟨rfl,rfl⟩)
  (fun os started H enc _=>JK os started H enc)
#print axioms witnessPlays_holds
end Go.Proofs.YtapphbmlkdhnmaaGreat
