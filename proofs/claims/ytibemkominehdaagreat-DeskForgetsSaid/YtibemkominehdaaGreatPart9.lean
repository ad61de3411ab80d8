/- Part 9 of the proof. The last text: DeskForgets: for every input the law answers true, and turns nothing. -/
import Derived.Test.YtibemkominehdaaGreatPart2
import Derived.Test.YtibemkominehdaaGreatPart8
import Derived.Test.YtibemkominehdaaGreatPart3
namespace Go.Proofs.YtibemkominehdaaGreat
open Go.GV Go.ChangeShapes Go.WideShapes Go.RowKit
set_option maxRecDepth 100000 in
theorem GG (os:Os) (started:os.Started) (H:Type) (enc:TypeId × Value→H) :
  ReturnsInHanded {} Tryz.checked os 5 .any (Rows.deskForgetsSpec.pre6 enc Tryz.prog Tryz.f5 Rows.deskForgetsRow.domain false) (Rows.deskForgetsSpec.post enc Tryz.prog Tryz.f5 false true false false):=by
 refine returnsInHanded_of_change (C:=Tryz.checked) own started (by kernel_rfl) Tryz.func5
  (ChangeSpec.witness6 (enc:=enc) (C:=Tryz.checked) false ⟨#[],#[.int .u16 0,.int .u8 0,.slice none 0 0],[]⟩ 8 (by kernel_rfl) (by kernel_rfl) (by kernel_rfl) (by kernel_rfl)) ?_
 intro W base args ds gs before hval0 hW hcnd _;have hval:∀ (j:Nat) t v,Tryz.f5.params[j]? = some t→args[j]? = some v→Value.okWide Tryz.prog W .any base t v:=hval0;have hW':=hW;obtain ⟨p,q,hA0,hV,rfl,hfz,hnd⟩:=hW;have hA:DataW.TrodAll enc Tryz.prog W 0 (fun _=>true) true Tryz.f5.params.toList args.toList ds p:=hA0;rw [Tryz.params5] at hA hval;obtain ⟨v0,vs0,d0,ds0,p0,q0,hargs,rfl,rfl,h0,r0⟩:=trodAll_cons hA;obtain ⟨v1,vs1,d1,ds1,p1,q1,rfl,rfl,rfl,h1,r1⟩:=trodAll_cons r0;obtain ⟨v2,vs2,d2,ds2,p2,q2,rfl,rfl,rfl,h2,r2⟩:=trodAll_cons r1;obtain ⟨rfl,rfl,rfl⟩:=trodAll_nil r2;obtain rfl:args=#[v0,v1,v2]:=by cases args; simp_all
 obtain ⟨k0,rfl,rfl,rfl,hg0⟩:=open_int Tryz.underlying48 (hval 0 _ v0 rfl rfl) h0;have hb0:0≤k0∧k0≤65535:=HK hg0;obtain ⟨k1,rfl,rfl,rfl,hg1⟩:=open_int Tryz.underlying5 (hval 1 _ v1 rfl rfl) h1;have hb1:0≤k1∧k1≤255:=HK hg1;obtain ⟨a2,c2,l2,rfl,R2,H2⟩:=N2 (hval 2 _ v2 rfl rfl) h2;refine (Km k0 k1 a2 c2 l2 W hb0 hb1 R2).calls.mono ?_;rintro e W' ⟨v,rfl,rfl,hx⟩;exact ⟨_,rfl,MF PV U U Tryz.underlying4 (fun ds h=>match ds,h with | [_,_,_],_=>rfl) hW' hx⟩
theorem JU:jn1 Tryz.prog 5 Tryz.f5 Rows.deskForgetsSpec Rows.deskForgetsRow=true:=by kernel_rfl
theorem JV:jn2 Tryz.prog 5 Tryz.f5 Rows.deskForgetsSpec Rows.deskForgetsRow=true:=by kernel_rfl
theorem JW:jn3 Tryz.prog 5 Tryz.f5 Rows.deskForgetsSpec Rows.deskForgetsRow=true:=by kernel_rfl
theorem JX:jn4 Tryz.prog 5 Tryz.f5 Rows.deskForgetsSpec Rows.deskForgetsRow=true:=by kernel_rfl
theorem JY:jn5 Tryz.prog 5 Tryz.f5 Rows.deskForgetsSpec Rows.deskForgetsRow=true:=by kernel_rfl
theorem JZ:joinedFacts Tryz.prog 5 Tryz.f5 Rows.deskForgetsSpec Rows.deskForgetsRow=true:=KC JU JV JW JX JY
theorem deskForgets_holds:Rows.DeskForgetsSaid :=
 OpenClaim.holds_of_wide 5 Tryz.f5 rfl rfl rfl rfl rfl rfl rfl ⟨rfl,rfl,rfl,rfl,rfl⟩ rfl rfl rfl rfl rfl (by kernel_rfl) Tryz.func5 JZ
  (of_decide_eq_true (by kernel_rfl)) (by unfold Func.isWrapper; rw [if_neg (of_decide_eq_false (by kernel_rfl))]; exact ⟨rfl,rfl⟩)
  (fun os started H enc _=>GG os started H enc)
#print axioms deskForgets_holds
end Go.Proofs.YtibemkominehdaaGreat
