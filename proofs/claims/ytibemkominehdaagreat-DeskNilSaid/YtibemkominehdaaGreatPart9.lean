/- Part 9 of the proof. The last text: DeskNil: for every input the law answers true, and turns nothing. -/
import Derived.Test.YtibemkominehdaaGreatPart2
import Derived.Test.YtibemkominehdaaGreatPart8
import Derived.Test.YtibemkominehdaaGreatPart3
namespace Go.Proofs.YtibemkominehdaaGreat
open Go.GV Go.ChangeShapes Go.WideShapes Go.RowKit
set_option maxRecDepth 100000 in
theorem Ka (os:Os) (started:os.Started) (H:Type) (enc:TypeId × Value→H) :
  ReturnsInHanded {} Tryz.checked os 4 .any (Rows.deskNilSpec.pre6 enc Tryz.prog Tryz.f4 Rows.deskNilRow.domain false) (Rows.deskNilSpec.post enc Tryz.prog Tryz.f4 false true false false):=by
 refine returnsInHanded_of_change (C:=Tryz.checked) own started (by kernel_rfl) Tryz.func4
  (ChangeSpec.witness6 (enc:=enc) (C:=Tryz.checked) false ⟨#[],#[.slice none 0 0],[]⟩ 8 (by kernel_rfl) (by kernel_rfl) (by kernel_rfl) (by kernel_rfl)) ?_
 intro W base args ds gs before hval0 hW hcnd _;have hval:∀ (j:Nat) t v,Tryz.f4.params[j]? = some t→args[j]? = some v→Value.okWide Tryz.prog W .any base t v:=hval0;have hW':=hW;obtain ⟨p,q,hA0,hV,rfl,hfz,hnd⟩:=hW;have hA:DataW.TrodAll enc Tryz.prog W 0 (fun _=>true) true Tryz.f4.params.toList args.toList ds p:=hA0;rw [Tryz.params4] at hA hval;obtain ⟨v0,vs0,d0,ds0,p0,q0,hargs,rfl,rfl,h0,r0⟩:=trodAll_cons hA;obtain ⟨rfl,rfl,rfl⟩:=trodAll_nil r0;obtain rfl:args=#[v0]:=by cases args; simp_all
 obtain ⟨a0,c0,l0,rfl,R0,H0⟩:=N2 (hval 0 _ v0 rfl rfl) h0;refine (OL a0 _ c0 W).calls.mono ?_;rintro e W' ⟨v,rfl,rfl,hx⟩;exact ⟨_,rfl,MF PV U U Tryz.underlying4 (fun ds h=>match ds,h with | [_],_=>rfl) hW' hx⟩
theorem ON:jn1 Tryz.prog 4 Tryz.f4 Rows.deskNilSpec Rows.deskNilRow=true:=by kernel_rfl
theorem OO:jn2 Tryz.prog 4 Tryz.f4 Rows.deskNilSpec Rows.deskNilRow=true:=by kernel_rfl
theorem OP:jn3 Tryz.prog 4 Tryz.f4 Rows.deskNilSpec Rows.deskNilRow=true:=by kernel_rfl
theorem OQ:jn4 Tryz.prog 4 Tryz.f4 Rows.deskNilSpec Rows.deskNilRow=true:=by kernel_rfl
theorem OT:jn5 Tryz.prog 4 Tryz.f4 Rows.deskNilSpec Rows.deskNilRow=true:=by kernel_rfl
theorem OU:joinedFacts Tryz.prog 4 Tryz.f4 Rows.deskNilSpec Rows.deskNilRow=true:=KC ON OO OP OQ OT
theorem deskNil_holds:Rows.DeskNilSaid :=
 OpenClaim.holds_of_wide 4 Tryz.f4 rfl rfl rfl rfl rfl rfl rfl ⟨rfl,rfl,rfl,rfl,rfl⟩ rfl rfl rfl rfl rfl (by kernel_rfl) Tryz.func4 OU
  (of_decide_eq_true (by kernel_rfl)) (by unfold Func.isWrapper; rw [if_neg (of_decide_eq_false (by kernel_rfl))]; exact ⟨rfl,rfl⟩)
  (fun os started H enc _=>Ka os started H enc)
#print axioms deskNil_holds
end Go.Proofs.YtibemkominehdaaGreat
