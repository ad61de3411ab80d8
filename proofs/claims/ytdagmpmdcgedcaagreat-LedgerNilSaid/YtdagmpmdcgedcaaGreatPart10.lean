/- Part 10 of the proof. -/
import Derived.Test.YtdagmpmdcgedcaaGreatPart2
import Derived.Test.YtdagmpmdcgedcaaGreatPart9
import Derived.Test.YtdagmpmdcgedcaaGreatPart3
import Derived.Test.YtdagmpmdcgedcaaGreatPart4
import Derived.Test.YtdagmpmdcgedcaaGreatPart7
/- A round's net, built: the walk. -/
namespace Go.Proofs.YtdagmpmdcgedcaaGreat
open Go.GV
attribute [local irreducible] AB W Wq Wt

/-- Three results, the first in a cell, behind marks. -/
theorem Se {P:Program} {e:Env} {w:World} {fn:Func} {R:Value→World→Prop} {a s2 s3:Tmp} {t:TypeId} {p:Addr} {v2 v3:Value} (hr:fn.results=#[.cell a t,.tmp s2,.tmp s3]) (ha:e.g a = .pointer (some p)) (h2:e.g s2=v2) (h3:e.g s3=v3) (h:Marks e.ds w fun w'=>∃ v,(loadVar t p).run P w' = .ok v w'∧R (.tuple #[v,v2,v3]) w'):QN P fn R .ret e w :=
 Marks.mono (fun w ⟨v,hv,h⟩ tmps ht=>by
  have h1:=(ht a).trans ha;have g2:=(ht s2).trans h2;have g3:=(ht s3).trans h3;rw [Array.getD_eq_getD_getElem?] at h1 g2 g3
  exact ⟨.tuple #[v,v2,v3],by simp [results,hr,h1,g2,g3,asAddr,hv],h⟩) h
/-- What a round's net is. -/
def RoundRes (w:World) (rs:List Int) (ds:List Du) (net:Bool) (v:Value) (w':World):Prop :=
 Ext [] w w'∧((Dr rs ds=false∧v = .tuple #[DG 0 none 0 0,.slice none 0 0,.int .i64 1]) ∨
  (Dr rs ds=true∧∃ aE nE cE vI,v = .tuple #[DG ((rs.length+1:Nat):Int) aE nE cE,vI,.int .i64 0]∧Sl w w' (.slice aE nE cE) 4 C4 (BA rs (opn ds) net)∧Sl w w' vI 1 U1 ((opn ds).map Du.id)))
/-- What the rounds leave. -/
def rndJ (ws:World) (b6:Nat) (N:Int) (es:List Ed) (i:Nat) (M:Mt) (w:World):Prop :=
 ∃ a c full,(M=fun y=>y∈((b6,Bl 51 [.int .i64 N,.slice a i c])::ent a 59 full).map (·.1))∧Ctx ws [b6] w ((b6,Bl 51 [.int .i64 N,.slice a i c])::ent a 59 full) ∧
  OS a i c 4 full ((es.take i).flatMap C4)∧∀ y∈((b6,Bl 51 [.int .i64 N,.slice a i c])::ent a 59 full).map (·.1),y≠ws.heap.size∧y≠ws.heap.size+1
set_option maxRecDepth 20000 in
set_option maxHeartbeats 4000000 in
theorem GR (a b:Option Addr) (n c m e:Nat) (rs:List Int) (ds:List Du) (net:Bool) (w:World) (R:Rd w a 1 I1 rs) (hn:rs.length=n) (hn2:n≤1000000) (Rd':Rd w b 7 CO ds) (hm:ds.length=m) (hm2:m≤1000000) :
  Ret Tryz.prog 179 #[.slice a n c,.slice b m e,.bool net] w (RoundRes w rs ds net):=by
 subst hn hm;obtain ⟨w0,rfl⟩:∃ w0,w0=w:=⟨_,rfl⟩;have H:=Ctx.start w0 [];obtain ⟨bb,hbb⟩:∃ bb,bb=Dr rs ds:=⟨_,rfl⟩;obtain ⟨os,hos⟩:∃ os,os=opn ds:=⟨_,rfl⟩;have hol:os.length≤ds.length:=by rw [hos]; exact HI ds
 refine GN (fn:=Tryz.f179) Tryz.func179 U [.slice a rs.length c,.slice b ds.length e,.bool net] U (by kernel_rfl) ?_;refine Ad (AZ U Mi H ?_);rintro b6 w - H;refine A1 U U (Ae U U (Ab (Aa (Aw (Ad (A4 U U (A4 U U (Al U Aeg (Ws a b _ c _ e rs ds _ (R.ext0 H.ext) U hn2 (Rd'.ext0 H.ext) U hm2) U ?_))))))));rintro v w ⟨rfl,hx14⟩;replace H:=H.call hx14;rw [← hbb];refine BG U U (Ab (Aa (Aq _ U ?_ ?_)))
 ·intro h1;replace h1:=BD h1;refine Ad (Ce U CV C7 U H at0 U (Bn U C7 U U U (by simp [Be]) H at0 U ?_));rintro w H;refine A1 U U (Ae U U (Ab (Aa (A5 (Ao (Se U U U U ?_))))));exact ⟨_,Fy CV C7 U (fun j v hv=>by rw [Aj (H.get at0),Nat.zero_add]; exact hv),H.ext,.inl ⟨by rw [← hbb]; exact h1,rfl⟩⟩
 ·intro h1;replace h1:=BE h1;refine Av (Aa (Ad (A4 U U (Bf U AR U (Ay U U U (by omega) (by omega) ?_)))));refine Ah U Ex U (Cg (.int _ _) U FK U U U H at0 (by decide) ?_);rintro w H;refine Ab (Aa (Ad (A4 U U (Al U Xv (UT b _ e ds _ (Rd'.ext0 H.ext) U hm2) U ?_))));rintro v w F;rw [← hos] at F;obtain ⟨a4,n4,c4,f4,rfl,O4,hb4⟩:=F.ex;have hl4:=O4.llen;rw [NP] at hl4;obtain rfl:os.length=n4:=by omega
  refine A1 U U (Ab (Aa (Aw ?_)));have hb6:=H.lt at0;have RO:Rd w a4 7 CO os:=OS.rd O4 (fun y hy=>(hb4 y hy).1) (fun _ _=>rfl) (by omega)
  have hROn:os≠[]→(adr a4).block∉[b6]:=fun hne=>by
   obtain ⟨q,rfl⟩:=O4.form (List.length_pos_iff.2 hne);have:=(hb4 (q,Bl 67 f4) (List.mem_singleton.2 rfl)).2;rw [List.mem_singleton];show q≠b6;dsimp only at this;omega
  have H4:=H.call F.ext;have hs4:=H4.size;have hl64:=H4.lt at0;obtain ⟨w4,rfl⟩:∃ z,z=w:=⟨_,rfl⟩;have H:=Ctx.lend (L1:=[_]) (L2:=[]) H4;dsimp only [List.map] at H;refine Ad (A4 U U (Bf U Dh U (Af U U (Ab (Aa (Az (Bv 34326185088 (α:=LSt) (fun t=>[(7,.slice t.a t.i t.c),(25,.int .i64 (t.i:Int))]) (fun t w'=>t.i≤os.length∧OS t.a t.i t.c 1 t.full (((os.take t.i).map Du.id).map FS)∧Ctx w4 [b6] w' ((b6,Bl 51 [.int .i64 ((rs.length:Int)+1),.slice none 0 0])::ent t.a 28 t.full)) (fun t=>os.length - t.i) ⟨0,none,0,[]⟩ U ?_ ?_ ?_)))))))
  ·exact ⟨rfl,rfl,trivial⟩
  ·exact ⟨Nat.zero_le _,OS.nil,H⟩
  ·clear H;rintro ⟨i,a2,c2,full⟩ jj w ⟨hi,O,H⟩; dsimp only at hi O H; dsimp only;refine Ad (Bj U U U (Ab (Aa (Aw (Aq _ U ?_ ?_)))))
   ·intro h3;replace h3:=AM h3;obtain ⟨d,hd⟩:=AD (l:=os) (i:=i) (by omega);refine Av (Aa (Aw (Az (Ad (Bo RO U Dh Cj U U (by omega) (by omega) (by rfl) ?_)))));refine Cn _ U EW Cj U U ((RO.ext' H.ext hROn).row hd U) ?_;refine AZ U Et H ?_;rintro b10 w - H;refine Bn U Cj U U U (by exact CY _) H at0 U ?_;rintro w H;refine Ab (Aa (A0 (A4 U U (Ah U Gh U (AE U B2 U H at0 U (Ci _ (.int _ _) U Br Bi N4 U (by decide) (by decide) U U U H ?_))))));rintro b32 w - H;refine CJ (L:=[_,_]) U Br Br Bi Uu N4 U (by decide) U U H O U (by simp [Be]) (by omega) ?_;rintro a' c' full' w H O;refine A1 U U (Ab (A6 (Aa (A0 (Ay U U U (by omega) (by omega) ?_)))));refine Af U U (Ab (Aa ?_));exact ⟨⟨i+1,a',c',full'⟩,rfl,⟨rfl,rfl,trivial⟩,⟨by dsimp only; omega,by dsimp only; rw [Lj hd,List.map_append]; exact O,H.tail⟩,by dsimp only; omega⟩
   ·intro h3;replace h3:=AN h3;obtain rfl:i=os.length:=by omega
    rw [List.take_length] at O;refine Bt (Am (Am (AK (Aa (Aw (Ad (A4 U U (A4 U U (A7 U U (Al U Aeh (Wu a a4 _ c _ c4 net _) U ?_))))))))));rintro v w ⟨x1,x2,x3,rfl,H10⟩;have H5:=H.call H10.ext;refine Ab (Aa (Az ?_));have RI0:Rd w a2 1 U1 (os.map Du.id):=O.rd1 fun x hx=>H5.blk x (List.mem_cons_of_mem _ hx)
    have hRIn:os.map Du.id≠[]→w4.heap.size≤(adr a2).block:=fun hne=>by
     obtain ⟨q,rfl⟩:=O.form (by have:=List.length_pos_iff.2 hne; rw [List.length_map] at this; exact this)
     rcases H.own (q,Bl 28 full) (List.mem_cons_of_mem _ (List.mem_singleton.2 rfl)) with h | h
     ·exact absurd (List.mem_singleton.1 h) fun h=>H.ne (i:=1) (j:=0) rfl rfl (by decide) h
     ·exact h
    have hk1:=H10.get at1;have hk2:=H10.get at0;have hk3:=H10.get at2;have ho1:=(H10.own _ (List.mem_of_getElem? at1)).elim (fun h=>by cases h) id;have ho2:=(H10.own _ (List.mem_of_getElem? at0)).elim (fun h=>by cases h) id;have ho3:=(H10.own _ (List.mem_of_getElem? at2)).elim (fun h=>by cases h) id;dsimp only at ho1 ho2 ho3;have hl6:=H.lt at0;have hs5:=H5.size;have hx5:=H4.ext.then H5.ext fun x hx => .inr (by rw [List.mem_singleton.1 hx]; exact (H4.own _ (List.mem_of_getElem? at0)).elim (fun h=>by cases h) id);have hb60:w0.heap.size≤b6:=(H4.own _ (List.mem_of_getElem? at0)).elim (fun h=>by cases h) id;have RR:=R.ext0 hx5;have RO5:=RO.ext' H5.ext hROn
    have hwe:∀ d∈os,-1000000000≤d.we∧d.we≤1000000000:=fun d hd=>by
     rw [hbb] at h1;have hB:=(Hm (by omega)).1 h1;rw [hos] at hd;have:=(D7 (hB.due d (UZ hd).1).1).2.2.2.2.1;omega
    obtain ⟨ws,rfl⟩:∃ z,z=w:=⟨_,rfl⟩;have H:=Ctx.lend (L1:=[_]) (L2:=_) H5;dsimp only [List.map] at H;obtain ⟨es,hes⟩:∃ es,es=BA rs os net:=⟨_,rfl⟩
    have hnR:rs≠[]→(adr a).block∉[b6]:=fun hne=>by
     have:=R.lt' (fun _ _=>rfl) (by decide) hne;rw [List.mem_singleton]; omega
    have heL:es.length≤3000000:=by rw [hes,GJ]; split <;> omega
    refine MD (gf:=240) U Ae4 (TR (b1:=x1) (b2:=x2) (b3:=x3) (a:=a) (b:=a4) (c:=c) (e:=c4) (rs:=rs) (ds:=os) (net:=net) U U hn2 (by omega) hwe) (by kernel_rfl) (by kernel_rfl) (fun v hv=>by obtain ⟨p,-,rfl⟩:=List.mem_map.1 hv; rfl)
     (rndJ ws b6 ((rs.length:Int)+1) es) (fun _=>False) (by simp)
     (fun w2 hx2 _=>⟨_,none,0,[],rfl,H.call hx2,OS.nil,by simp [ent]; omega⟩)
     (fun i M w' w'' hJ hx=>?_) (fun _ _ h _=>h) (fun i M w' hJ=>?_) ?_ ?_ (fun _ h _=>h.elim)
    ·obtain ⟨a7,c7,f7,hM,HJ,O7,hne⟩:=hJ;refine ⟨a7,c7,f7,hM,HJ.step hx (fun y hy hy2=>?_) (fun x hx => .inr ?_),O7,hne⟩
     ·have:=hne _ (List.mem_map_of_mem (f:=(·.1)) hy);simp only [List.mem_cons,List.not_mem_nil,or_false] at hy2;omega
     ·simp only [List.mem_cons,List.not_mem_nil,or_false] at hx;omega
    ·obtain ⟨a7,c7,f7,hM,HJ,O7,hne⟩:=hJ;refine ⟨fun x hx=>?_,HJ.ext.to hk1 (by rw [List.mem_singleton]; omega),HJ.ext.to hk2 (by rw [List.mem_singleton]; omega),HJ.ext.to hk3 (by rw [List.mem_singleton]; omega),RR.ext' HJ.ext hnR,RO5.ext' HJ.ext hROn⟩;rw [hM] at hx;obtain ⟨y,hy,rfl⟩:=List.mem_map.1 hx;exact ⟨Bb (HJ.blk y hy),hne _ hx⟩
    ·rintro i v M w hxv ⟨a7,c7,f7,rfl,HJ,O7,hne⟩ hsz;rw [List.getElem?_map] at hxv;obtain ⟨ed,hed,rfl⟩:=Option.map_eq_some_iff.1 hxv;rw [← hes] at hed;have hil:=Cu hed;obtain ⟨w1,rfl⟩:∃ z,z=w:=⟨_,rfl⟩;have H:=Ctx.start w1 [];refine A0 (AZ U GZ H ?_);rintro b11 w - H;refine Bn U CX U U U (by exact He _) H at0 U ?_;rintro w H;refine Ab ?_;refine ⟨H.ext,fun wB hxB=>?_⟩;have hb11:=(H.own _ (List.mem_cons_self ..)).elim (fun h=>by cases h) id;dsimp only at hb11;have hs1:=H.size;have hsB:=hxB.size
     have HB:=(HJ.callAdd H.ext (H.get at0) hb11).step hxB (fun y hy=>by
      rw [List.mem_singleton]
      rcases List.mem_cons.1 hy with rfl | hy
      ·dsimp only; omega
      ·exact (hne _ (List.mem_map_of_mem (f:=(·.1)) hy)).2) (fun z hz => .inr (by rw [List.mem_singleton.1 hz]; omega))
     obtain ⟨w2,rfl⟩:∃ z,z=wB:=⟨_,rfl⟩;rw [← List.append_nil (_::_::ent a7 59 f7)] at HB;have H:=Ctx.lend (L1:=_::_::ent a7 59 f7) (L2:=[]) HB;obtain ⟨SS,hSS⟩:∃ SS,SS=((b11,Bl 59 (C4 ed))::(b6,Bl 51 [.int .i64 ((rs.length:Int)+1),.slice a7 i c7])::ent a7 59 f7).map (·.1):=⟨_,rfl⟩;rw [← hSS] at H;refine Az (A0 (Ah U CN U (AE U Ei U H at1 U (Ce U Ib CX U H at0 U (Ci _ (.agg _) U CW CX GZ U (by decide) (by decide) U U U H ?_)))));rintro b43 w - H;refine CJ (L:=[_,_]) U CW CW CX Xl GZ U (by decide) U U H O7 U (He ed) (by omega) ?_;rintro a' c' full' w H O;refine Ah U CN U (Cg (.slice _ _ _) U Acq U U U H at1 (by (simp; done)) ?_);rintro w H;refine Ab (A6 ?_);rw [hSS] at H;have HE:=H.ext;have HH:=Ctx.back HB H;rw [List.append_nil] at HH;refine ⟨_,⟨a',c',full',rfl,HH.tail,by rw [List.take_add_one,hed,List.flatMap_append]; exact O,fun y hy=>?_⟩,fun y hy=>?_,_,HE,fun y hy=>?_⟩
     ·obtain ⟨z,hz,rfl⟩:=List.mem_map.1 hy
      rcases H.own z (List.mem_cons_of_mem _ hz) with h | h
      ·rcases List.mem_cons.1 h with h | h
       ·dsimp only at h; omega
       ·exact hne _ h
      ·have:=hxB.size; have:=H.ext.size; omega
     ·obtain ⟨z,hz,rfl⟩:=List.mem_map.1 hy
      rcases H.own z (List.mem_cons_of_mem _ hz) with h | h
      ·rcases List.mem_cons.1 h with h | h
       ·exact .inr (by dsimp only at h; omega)
       ·exact .inl h
      ·exact .inr (by have:=hxB.size; omega)
     ·rcases List.mem_cons.1 hy with h | h
      ·exact .inr (by dsimp only at h; omega)
      ·exact .inl h
    ·rintro M w ⟨a7,c7,f7,rfl,HJ,O7,hne⟩ hD;rw [List.length_map,← hes] at HJ O7 hne;rw [List.take_length] at O7;have H:=HJ;obtain ⟨w1,rfl⟩:∃ z,z=w:=⟨_,rfl⟩;rw [← List.append_nil (_::ent a7 59 f7)] at HJ;have H:=Ctx.lend (L1:=_::ent a7 59 f7) (L2:=[]) HJ;obtain ⟨SS,hSS⟩:∃ SS,SS=((b6,Bl 51 [.int .i64 ((rs.length:Int)+1),.slice a7 es.length c7])::ent a7 59 f7).map (·.1):=⟨_,rfl⟩;rw [← hSS] at H hne;have hDn:ws.heap.size∉SS:=fun h=>(hne _ h).1 rfl;refine A6 (Aa (Ad (Ce U CV C7 U H at0 U (A4 U U (Bn U C7 U U U (by simp [Be]) H at0 U ?_)))));rintro w H;refine A1 U U (Ae U U (Ab (Aa (A5 (Se U U U U ?_)))));refine GO (H.ext.to hD hDn) U fun wF hxF=>?_;rw [hSS] at H;have HH:=Ctx.back HJ H;rw [List.append_nil] at HH;rw [hSS] at hne;have HF:=HH.step hxF (fun y hy h=>(hne _ (List.mem_map_of_mem (f:=(·.1)) hy)).1 (List.mem_singleton.1 h)) (fun z hz => .inr (by rw [List.mem_singleton.1 hz]; omega))
     have hown:∀ y∈((b6,Bl 51 [.int .i64 ((rs.length:Int)+1),.slice a7 es.length c7])::ent a7 59 f7),w0.heap.size≤y.1:=fun y hy=>by
      rcases HF.own y hy with h | h
      ·rw [List.mem_singleton.1 h]; exact hb60
      ·have:=hx5.size; omega
     have hxx:=hx5.then HF.ext fun x hx => .inr (by rw [List.mem_singleton.1 hx]; exact hb60);refine ⟨_,Fy CV C7 U (fun j v hv=>by rw [Aj (HF.get at0),Nat.zero_add]; exact hv),hxx,.inr ⟨by rw [← hbb]; exact h1,a7,es.length,c7,.slice a2 os.length c2,rfl,?_,?_⟩⟩
     ·rw [← hos,← hes];refine ⟨a7,c7,rfl,O7.le,OS.rd O7 (fun x hx=>HF.blk x (List.mem_cons_of_mem _ hx)) (fun _ _=>rfl) (by decide),fun hne'=>?_⟩;obtain ⟨q,rfl⟩:=O7.form (List.length_pos_iff.2 hne');exact hown (q,Bl 59 f7) (List.mem_cons_of_mem _ (List.mem_singleton.2 U))
     ·rw [← hos];have hd4:os.map Du.id≠[]→w4.heap.size≤(adr a2).block:=hRIn;refine ⟨a2,c2,by rw [List.length_map],by rw [List.length_map]; exact O.le,RI0.ext' HF.ext (fun hne'=>?_),fun hne'=>?_⟩
      ·have:=hRIn hne';rw [List.mem_singleton]; omega
      ·have:=hRIn hne';omega
end Go.Proofs.YtdagmpmdcgedcaaGreat

/- Nets, as the reference has them: Right, Within. -/
namespace Go.Proofs.YtdagmpmdcgedcaaGreat
open Go.GV
attribute [local irreducible] AB W Wq Wt

end Go.Proofs.YtdagmpmdcgedcaaGreat

/- Flows, as the reference has them: Over, Flows. -/
namespace Go.Proofs.YtdagmpmdcgedcaaGreat
open Go.GV
attribute [local irreducible] AB W Wq Wt

/-- What is over at the first nodes. -/
def ovI (g:Gr) (x:Nat→Int) (v i q:Nat):Int:=if q<v then B6 g x q else if q=v then DQ g x i v else 0
end Go.Proofs.YtdagmpmdcgedcaaGreat

/- Arcs, and whether what flows is the best, as the reference has them. -/
namespace Go.Proofs.YtdagmpmdcgedcaaGreat
open Go.GV
attribute [local irreducible] AB W Wq Wt

end Go.Proofs.YtdagmpmdcgedcaaGreat

/- A round's net, as the reference has it. -/
namespace Go.Proofs.YtdagmpmdcgedcaaGreat
open Go.GV
attribute [local irreducible] AB W Wq Wt

/-- Two slices that grow. -/
structure LS2 where
 i:Nat
 a:Option Addr
 c:Nat
 f:List Value
 a2:Option Addr
 c2:Nat
 f2:List Value
end Go.Proofs.YtdagmpmdcgedcaaGreat

/- The best flow: the walk. -/
namespace Go.Proofs.YtdagmpmdcgedcaaGreat
open Go.GV
attribute [local irreducible] AB W Wq Wt

theorem perm5 {α:Type} {a b c d e:α} {r:List α}:(a::b::c::d::e::r).Perm (d::a::e::b::c::r) :=
 (List.perm_middle (l₁:=[a,b,c]) (l₂:=e::r)).trans (((List.perm_middle (l₁:=[b,c]) (l₂:=r)).cons _).cons _)
/-- Numbers that are 0 beyond the table. -/
theorem Sf (f:Nat→Int) (n:Nat):∃ f1:Nat→Int,BN f n=BN f1 n∧flE (tab f1 n)=f1∧E7 (tab f1 n)=f1∧∀ i,i<n→f1 i=f i:=by
 refine ⟨fun i=>if i<n then f i else 0,List.map_congr_left fun i hi=>by dsimp only; rw [if_pos (List.mem_range.1 hi)],?_,?_,fun i hi=>if_pos hi⟩
 all_goals
  funext i
  first | unfold flE | unfold E7
  rcases Nat.lt_or_ge i n with h | h
  ·rw [Bm (BO h)]
  ·rw [List.getD_eq_getElem?_getD,List.getElem?_eq_none (by rw [CT]; exact h)];exact (if_neg (by omega)).symm
theorem YN {g:Gr} {cap x y p:Nat→Int} (h:Fine g cap x p) (hy:∀ i,i<g.E→y i=x i):Fine g cap y p:=by
 refine ⟨fun i hi=>by rw [hy i hi]; exact h.in' i hi,fun a ha hr=>h.fit a ha ?_⟩;unfold C6 at hr ⊢;rw [hy _ (by omega)] at hr;exact hr

theorem Ag0 {w:World} {bs bf bp bo:Nat} {N n:Nat} {ae:Option Addr} {ce:Nat} {kk:Int} {es:List Ed} {x p ov:Nat→Int} {full:List Value} {g:Gr} {cap:Nat→Int} (hn:es.length=n) (hg:grE (N:Int) es=g) (hcap:∀ i,i<n→Cf es i=cap i) (H0:Ctx w ((SL bs bf bp bo N ae n ce kk x p ov full).map (·.1)) w (SL bs bf bp bo N ae n ce kk x p ov full)) (O:OS ae n ce 4 full (es.flatMap C4))
  (hr:Cp (N:Int) es=true) (hF:Fine g cap x p) (hov:∀ v,v<N→ov v=B6 g x v) (hpb:∀ v,v<N → -1073741824≤p v∧p v≤1073741824) :
  Ret Tryz.prog 212 #[ptr bs] w fun v w'=>∃ (b:Bool) (x' p' ov':Nat→Int) (kk':Int),v = .bool b∧Ctx w ((SL bs bf bp bo N ae n ce kk x p ov full).map (·.1)) w' (SL bs bf bp bo N ae n ce kk' x' p' ov' full)∧Fine g cap x' p'∧(∀ v,v<N→ov' v=B6 g x' v)∧(∀ v,v<N → -1073741824≤p' v∧p' v≤1073741824) ∧
   (b=false→∀ v,v<N→B6 g x' v≤0)∧(b=true→Hd g x'+1≤Hd g x):=by
 subst hn hg;obtain ⟨x1,hx1,hxn,-,hxe⟩:=Sf x es.length;obtain ⟨p1,hp1,-,hpn,hpe⟩:=Sf p N;have hgo:=IG hr;have hsl:SL bs bf bp bo N ae es.length ce kk x p ov full=SL bs bf bp bo N ae es.length ce kk x1 p1 ov full:=by unfold SL; rw [hx1,hp1]
 have hF1:Fine (grE (N:Int) es) (Cf es) x1 p1:=NI hgo (YN (LK hF hcap) hxe) hpe;have hov1:∀ v,B6 (grE (N:Int) es) x1 v=B6 (grE (N:Int) es) x v:=fun v=>Kp hxe v;have hex:Hd (grE (N:Int) es) x1=Hd (grE (N:Int) es) x:=Cr fun v _=>by rw [hov1]
 rw [hsl] at H0 ⊢;refine Ret.mono (Aa3 H0 O hr hF1 (fun v hv=>by rw [hov1]; exact hov v hv) (fun v hv=>by rw [hpe v hv]; exact hpb v hv) hxn hpn) ?_;rintro v w' ⟨b,x',p',ov',kk',h1,h2,h3,h4,h5,h6,h7⟩;exact ⟨b,x',p',ov',kk',h1,h2,LK h3 fun i hi=>(hcap i hi).symm,h4,h5,h6,fun h=>by rw [← hex]; exact h7 h⟩
theorem YO (g:Gr) (v:Nat):B6 g (fun _=>0) v=0:=by
 have:B6 g (fun _=>0) v=B5 (fun _=>0) g.E:=Cr fun i _=>by rw [Int.mul_zero]
 rw [this,Gu]
structure PSt where
 j:Nat
 full:List Value
 x:Nat→Int
 p:Nat→Int
 ov:Nat→Int
 kk:Int
structure FSt where
 x:Nat→Int
 p:Nat→Int
 ov:Nat→Int
 kk:Int

set_option maxRecDepth 20000 in
set_option maxHeartbeats 8000000 in
theorem Abi (N:Nat) (a:Option Addr) (c:Nat) (es:List Ed) (w:World) (R:Rd w a 4 C4 es) (hr:Cp (N:Int) es=true) :
  Ret Tryz.prog 181 #[DG (N:Int) a es.length c] w fun v w'=>∃ (bf bp:Nat) (x p:Nat→Int) (k:Int),v = .tuple #[Rn (some ⟨bf,0,none⟩) (some ⟨bp,0,none⟩) es.length es.length N N,.int .i64 k,.int .i64 0]∧Fine (grE (N:Int) es) (Cf es) x p∧(∀ v,v<N→B6 (grE (N:Int) es) x v=0)∧(∀ v,v<N → -1073741824≤p v∧p v≤1073741824)∧Ctx w [] w' [(bf,Bl 2 (BN x es.length)),(bp,Bl 2 (BN p N))]:=by
 obtain ⟨w0,rfl⟩:∃ w0,w0=w:=⟨_,rfl⟩;have H:=Ctx.start w0 [];obtain ⟨hN1,hN40,hn200,hall,-⟩:=C8 hr;have hI:I64 (N:Int):=by unfold I64; omega
 refine Au (fn:=Tryz.f181) Tryz.func181 U [DG (N:Int) a es.length c] U (by kernel_rfl) ?_;refine Ad (Bu U [.int .i64 (N:Int),.slice a es.length c] (.agg _) U U H ?_);rintro b1 w - H;refine AZ U U4 H ?_;rintro b2 w - H;refine Ae U U (Ae U U (Ab (Aa (P8 (Aw (Ad (Ce U CV C7 U H at1 U (Al U PN (Lg (N:Int) a es.length c es _ (R.ext0 H.ext) U hI) U ?_))))))));rintro v w ⟨rfl,hx11⟩;replace H:=H.call hx11;refine BG U U (Ab (Aa (Aq _ U ?_ ?_)))
 ·intro h1;replace h1:=BD h1;rw [hr] at h1;cases h1
 ·intro h1;replace h1:=BE h1;refine Av (Aa (DE 8589918240 (α:=Nat × Nat × Nat × Nat × Nat × Nat × List Value) (fun z=>[(5,ptr z.1)]) (fun z w'=>OS (some ⟨z.2.2.2.2.1,0,none⟩) es.length z.2.2.2.2.2.1 4 z.2.2.2.2.2.2 (es.flatMap C4)∧Ctx w0 [] w' [(z.2.1,Bl 2 (BN (fun _=>0) es.length)),(z.2.2.2.1,Bl 2 (BN (fun _=>0) N)),(z.2.2.2.2.1,Bl 59 z.2.2.2.2.2.2),(z.1,Bl 254 (SC N (some ⟨z.2.2.2.2.1,0,none⟩) es.length z.2.2.2.2.2.1 z.2.1 z.2.2.1 z.2.2.2.1 0)),(z.2.2.1,Bl 2 (BN (fun _=>0) N)),(b2,Bl 53 [.slice none 0 0,.slice none 0 0]),(b1,Bl 51 [.int .i64 (N:Int),.slice a es.length c])]) U ?_ ?_))
  ·skip
   have hb1:=H.get at1;refine V5 (n:=19) (anc:=G2) Bk.b (Acs es.length es) (fun i=>14+i) (RG b1 N es.length a c) (G3 N es.length) (show Tryz.prog.follows .mixedOrders=true by kernel_rfl) U (by kernel_rfl) ?_ (fun i j _ _ h=>by have h:14+i=14+j:=h; omega) (fun i k b B=>sStab b1 N es.length a c i k b B) ?_ ?_
   ·intro k hk;have:k=0∨k=1∨k=2∨k=3∨k=4∨k=5∨k=6∨k=7∨k=8∨k=9∨k=10∨k=11∨k=12∨k=13∨k=14∨k=15∨k=16∨k=17∨k=18:=by omega
    simp [G2];omega
   ·intro i o e' w' B hi ho hold hsl hx hbl hgd;have h4:e'.g 1=ptr b1:=(hold 1 fun j hj h=>by have h:1=14+j:=h; omega).trans rfl;have hc4:w'.heap[b1]? = some (Bl 51 [.int .i64 (N:Int),.slice a es.length c]):=hx.to (by exact hb1) (by simp);have hcs:i=0∨i=1∨i=2∨i=3∨i=4∨i=5∨i=6∨i=7∨i=8∨i=9∨i=10∨i=11∨i=12∨i=13∨i=14∨i=15∨i=16∨i=17∨i=18:=by omega
    have hpure:∀ {v:Value},G3 N es.length i=none→i≠5→RG b1 N es.length a c i (Jl B i default)=v→AQB Bk.b (Acs es.length es) (fun i=>14+i) (RG b1 N es.length a c) (G3 N es.length) i e' w' B (put e' (some (14+i)) v) w':=fun h1 h5 h2=>⟨default,fun h=>absurd h h5,fun ob h=>(by rw [h1] at h; cases h),.refl _ _,by rw [h2]⟩
    rcases hcs with rfl | rfl | rfl | rfl | rfl | rfl | rfl | rfl | rfl | rfl | rfl | rfl | rfl | rfl | rfl | rfl | rfl | rfl | rfl
    ·cases Option.some.inj ho;exact Ah U (by kernel_rfl) h4 (Ab (hpure U (by decide) U))
    ·cases Option.some.inj ho;exact Bd U BS (hsl 0 (by simp [G2])) (by rw [Aj hc4]; rfl) (Ab (hpure U (by decide) U))
    ·cases Option.some.inj ho;refine GM U CW CX (Ctx.start w' []) fun b w2 H O=>?_;have hbb:=H.blk (b,_) (List.mem_cons_self ..);exact Ab ⟨⟨b,0,[]⟩,(fun h=>by cases h),fun ob h=>(by obtain rfl:=Option.some.inj h; exact ⟨(H.own _ (List.mem_cons_self ..)).elim (fun h=>by cases h) id,hbb⟩),H.ext,rfl⟩
    ·cases Option.some.inj ho;exact Ah U (by kernel_rfl) h4 (Ab (hpure U (by decide) U))
    ·cases Option.some.inj ho;exact Bd U Ei (hsl 3 (by simp [G2])) (by rw [Aj hc4]; rfl) (Ab (hpure U (by decide) U))
    ·cases Option.some.inj ho;have h16:e'.g 16 = .slice (some ⟨(B 2).b,0,none⟩) 0 0:=hsl 2 (by simp [G2]);have h18:e'.g 18 = .slice a es.length c:=hsl 4 (by simp [G2])
     by_cases hn:es.length=0
     ·rw [hn] at h18;exact QS U CW CW CX h16 h18 (Ab ⟨default,fun _ => .inl hn,fun ob h=>(by simp [G3,hn] at h),.refl _ _,by simp [RG,sQ,hn,Jl]⟩)
     ·refine Tb U CW CW CX Xl GZ U (by decide) (es.flatMap C4) h16 h18 (by omega) (E5 fun _ _=>rfl) (Rd.app (R.ext0 ((H.ext.trans (Ext.drew [] _)).trans hx)) (fun _ _=>rfl) (by decide)) (by omega) fun b c' full' w2 hb hx2 hbl2 O2=>?_;exact Ab ⟨⟨b,c',full'⟩,fun _ => .inr O2,fun ob h=>(by simp only [G3,hn] at h; simp at h; subst h; exact ⟨by dsimp only; omega,by dsimp only; rw [Ia]; exact hbl2⟩),hx2,by simp [RG,sQ,hn,Jl]⟩
    ·cases Option.some.inj ho;refine B7 [.int .i64 (N:Int),.slice (some ⟨(sQ es.length B).b,0,none⟩) es.length (sQ es.length B).c] U pl_51 Mi ?_ (Ab (hpure U (by decide) U));show Instr.fill _ _ [(0,e'.g 15),(1,e'.g 19)]=_;rw [show e'.g 15 = .int .i64 (N:Int) from hsl 1 (by simp [G2]),show e'.g 19 = .slice (some ⟨(sQ es.length B).b,0,none⟩) es.length (sQ es.length B).c from hsl 5 (by simp [G2])];rfl
    ·cases Option.some.inj ho;exact Ah U (by kernel_rfl) h4 (Ab (hpure U (by decide) U))
    ·cases Option.some.inj ho;exact Bd U Ei (hsl 7 (by simp [G2])) (by rw [Aj hc4]; rfl) (Ab (hpure U (by decide) U))
    ·cases Option.some.inj ho;exact Bf U CW (hsl 8 (by simp [G2])) (Ab (hpure U (by decide) U))
    ·cases Option.some.inj ho;refine GD U AR Bx Kl Eb (hsl 9 (by simp [G2])) (hsl 9 (by simp [G2])) (by omega) (by omega) (by omega) (by omega) (Ctx.start w' []) fun b w2 hb H=>?_;have hbb:=H.get at0;rw [show ((es.length:Nat):Int).toNat=es.length from rfl,EB] at hbb;exact Ab ⟨⟨b,0,[]⟩,(fun h=>by cases h),fun ob h=>(by obtain rfl:=Option.some.inj h; exact ⟨by dsimp only; omega,hbb⟩),H.ext,rfl⟩
    ·cases Option.some.inj ho;exact Ah U (by kernel_rfl) h4 (Ab (hpure U (by decide) U))
    ·cases Option.some.inj ho;exact Bd U BS (hsl 11 (by simp [G2])) (by rw [Aj hc4]; rfl) (Ab (hpure U (by decide) U))
    ·cases Option.some.inj ho;refine GD U AR Bx Kl Eb (hsl 12 (by simp [G2])) (hsl 12 (by simp [G2])) (by omega) (by omega) (by omega) (by omega) (Ctx.start w' []) fun b w2 hb H=>?_;have hbb:=H.get at0;rw [show ((N:Nat):Int).toNat=N from rfl,EB] at hbb;exact Ab ⟨⟨b,0,[]⟩,(fun h=>by cases h),fun ob h=>(by obtain rfl:=Option.some.inj h; exact ⟨by dsimp only; omega,hbb⟩),H.ext,rfl⟩
    ·cases Option.some.inj ho;exact Ah U (by kernel_rfl) h4 (Ab (hpure U (by decide) U))
    ·cases Option.some.inj ho;exact Bd U BS (hsl 14 (by simp [G2])) (by rw [Aj hc4]; rfl) (Ab (hpure U (by decide) U))
    ·cases Option.some.inj ho;refine GD U AR Bx Kl Eb (hsl 15 (by simp [G2])) (hsl 15 (by simp [G2])) (by omega) (by omega) (by omega) (by omega) (Ctx.start w' []) fun b w2 hb H=>?_;have hbb:=H.get at0;rw [show ((N:Nat):Int).toNat=N from rfl,EB] at hbb;exact Ab ⟨⟨b,0,[]⟩,(fun h=>by cases h),fun ob h=>(by obtain rfl:=Option.some.inj h; exact ⟨by dsimp only; omega,hbb⟩),H.ext,rfl⟩
    ·cases Option.some.inj ho;refine B7 (sSC N es.length B) U Af0 Aga ?_ (Ab (hpure U (by decide) U));show Instr.fill _ _ [(0,e'.g 20),(1,e'.g 24),(2,e'.g 27),(3,e'.g 30)]=_;rw [show e'.g 20 = .agg #[.int .i64 (N:Int),.slice (some ⟨(sQ es.length B).b,0,none⟩) es.length (sQ es.length B).c] from hsl 6 (by simp [G2]),show e'.g 24 = .slice (some ⟨(B 10).b,0,none⟩) es.length es.length from hsl 10 (by simp [G2]),show e'.g 27 = .slice (some ⟨(B 13).b,0,none⟩) N N from hsl 13 (by simp [G2]),show e'.g 30 = .slice (some ⟨(B 16).b,0,none⟩) N N from hsl 16 (by simp [G2])];rfl
    ·cases Option.some.inj ho;refine Bu U (sSC N es.length B) (.agg _) (hsl 17 (by simp [G2])) U (Ctx.start w' []) fun b w2 hb H=>?_;exact Ab ⟨⟨b,0,[]⟩,(fun h=>by cases h),fun ob h=>(by obtain rfl:=Option.some.inj h; exact ⟨by dsimp only; omega,H.get at0⟩),H.ext,rfl⟩
   ·intro o e' w' B ho A;have hl1:=Bb hb1;have hl2:=Bb (H.get at0);have h9:w.drew.heap.size=w.heap.size:=rfl
    obtain ⟨iq,hiq,hqb,hqh,hqo,O5⟩:∃ iq,(iq=2∨iq=5)∧(sQ es.length B).b=(B iq).b∧w'.heap[(B iq).b]? = some (Bl 59 (sQ es.length B).f)∧(G3 N es.length iq≠none)∧OS (some ⟨(sQ es.length B).b,0,none⟩) es.length (sQ es.length B).c 4 (sQ es.length B).f (es.flatMap C4):=by
     by_cases hn:es.length=0
     ·have he:es=[]:=List.eq_nil_of_length_eq_zero hn;have hsq:sQ es.length B=⟨(B 2).b,0,[]⟩:=if_pos hn;rw [hsq];refine ⟨2,.inl rfl,rfl,(A.blk 2 _ (by omega) trivial (show G3 N es.length 2=some _ from rfl)).1,by simp [G3],?_⟩;subst he;exact ⟨(fun q hq=>by injection hq with hq; subst hq; rfl),(fun h=>by cases h),rfl,Nat.le_refl _,rfl⟩
     ·have hsq:sQ es.length B=B 5:=if_neg hn;have ho5:G3 N es.length 5=some fun B=>Bl 59 (B 5).f:=by simp [G3,hn]
      rw [hsq];exact ⟨5,.inr rfl,rfl,(A.blk 5 _ (by omega) trivial ho5).1,by rw [ho5]; simp,(A.good 5 (by omega) trivial rfl).resolve_left hn⟩
    have hiq19:iq<19:=by omega
    have ob10:G3 N es.length 10≠none:=by simp [G3]
    have ob13:G3 N es.length 13≠none:=by simp [G3]
    have ob16:G3 N es.length 16≠none:=by simp [G3]
    have ob18:G3 N es.length 18≠none:=by simp [G3]
    have hne:=fun i j hi hj hij oi oj=>A.ne i j hi hj hij trivial trivial oi oj;have k10:=A.blk 10 _ (by omega) trivial (show G3 N es.length 10=some _ from rfl);have k13:=A.blk 13 _ (by omega) trivial (show G3 N es.length 13=some _ from rfl);have k16:=A.blk 16 _ (by omega) trivial (show G3 N es.length 16=some _ from rfl);have k18:=A.blk 18 _ (by omega) trivial (show G3 N es.length 18=some _ from rfl)
    have kq:w.heap.size≤(B iq).b:=by
     cases hoq:G3 N es.length iq with
     | none=>exact absurd hoq hqo
     | some ob=>exact (A.blk iq ob hiq19 trivial hoq).2
    have hs0:=H.size;have n10_16:=hne 10 16 (by omega) (by omega) (by omega) ob10 ob16;have n10_q:=hne 10 iq (by omega) hiq19 (by omega) ob10 hqo;have n10_18:=hne 10 18 (by omega) (by omega) (by omega) ob10 ob18;have n10_13:=hne 10 13 (by omega) (by omega) (by omega) ob10 ob13;have n16_q:=hne 16 iq (by omega) hiq19 (by omega) ob16 hqo;have n16_18:=hne 16 18 (by omega) (by omega) (by omega) ob16 ob18;have n16_13:=hne 16 13 (by omega) (by omega) (by omega) ob16 ob13;have nq_18:=hne iq 18 hiq19 (by omega) (by omega) hqo ob18;have nq_13:=hne iq 13 hiq19 (by omega) (by omega) hqo ob13;have n18_13:=hne 18 13 (by omega) (by omega) (by omega) ob18 ob13;have n12:=H.ne at0 at1 (by decide);have hb20:=(H.own _ (List.mem_cons_self ..)).elim (fun h=>by cases h) id;have hb10:=(H.own _ (List.mem_cons_of_mem _ (List.mem_cons_self ..))).elim (fun h=>by cases h) id
    have Hc:Ctx w0 [] w' [((B 10).b,Bl 2 (BN (fun _=>0) es.length)),((B 16).b,Bl 2 (BN (fun _=>0) N)),((B iq).b,Bl 59 (sQ es.length B).f),((B 18).b,Bl 254 (sSC N es.length B)),((B 13).b,Bl 2 (BN (fun _=>0) N)),(b2,Bl 53 [.slice none 0 0,.slice none 0 0]),(b1,Bl 51 [.int .i64 (N:Int),.slice a es.length c])]:=by
     refine ⟨(H.ext.trans (Ext.drew [] _)).trans A.ext,fun x hx=>?_,?_,fun x hx => .inr ?_⟩
     ·simp only [List.mem_cons,List.not_mem_nil,or_false] at hx
      rcases hx with rfl | rfl | rfl | rfl | rfl | rfl | rfl
      ·exact k10.1
      ·exact k16.1
      ·exact hqh
      ·exact k18.1
      ·exact k13.1
      ·exact A.ext.to (H.get at0) (by simp)
      ·exact A.ext.to hb1 (by simp)
     ·simp only [List.pairwise_cons,List.mem_cons,List.not_mem_nil,or_false,forall_eq_or_imp,forall_eq,List.Pairwise.nil,false_imp_iff,implies_true,and_true];refine ⟨⟨n10_16,n10_q,n10_18,n10_13,?_,?_⟩,⟨n16_q,n16_18,n16_13,?_,?_⟩,⟨nq_18,nq_13,?_,?_⟩,⟨n18_13,?_,?_⟩,⟨?_,?_⟩,n12⟩ <;> omega
     ·simp only [List.mem_cons,List.not_mem_nil,or_false] at hx
      rcases hx with rfl | rfl | rfl | rfl | rfl | rfl | rfl <;> (dsimp only; omega)
    cases Option.some.inj ho;refine CK U (ptr (B 18).b) (A.slot 18 (by omega) trivial) (Ab ⟨((B 18).b,(B 10).b,(B 13).b,(B 16).b,(sQ es.length B).b,(sQ es.length B).c,(sQ es.length B).f),A.ds,⟨rfl,trivial⟩,O5,?_⟩);dsimp only;rw [hqb];have hsc:sSC N es.length B=SC N (some ⟨(B iq).b,0,none⟩) es.length (sQ es.length B).c (B 10).b (B 13).b (B 16).b 0:=by unfold sSC; rw [hqb]
    rw [hsc] at Hc;exact Hc
  ·rintro ⟨bs,bf,bp,bo,q,ce,full⟩ j w ⟨O,H⟩; dsimp only at O H; dsimp only;obtain ⟨g,hg⟩:∃ g,g=grE (N:Int) es:=⟨_,rfl⟩;have hgE:g.E=es.length:=by rw [hg]; rfl
   have hgN:g.N=N:=by rw [hg]; rfl
   have hgo:g.Ok:=by rw [hg]; exact IG hr
   have hcb:=ML hr;rw [← hg];refine Ad (Ae U U (Ab (Aa (Aw (Ad (Ah U CN U (AE U Ei U H at6 U (Bf U CW U (Af U U (Ab (Aa ?_)))))))))));refine Az (Bv 72057525318451648 (α:=Nat × Nat × List Value) (fun t=>[(36,.int .i64 (t.1:Int)),(6,.int .i64 (t.2.1:Int))]) (fun t w'=>t.1≤es.length∧OS (some ⟨q,0,none⟩) es.length ce 4 t.2.2 ((esC es (IJ (Cf es) (fun _=>0) t.1)).flatMap C4)∧(∀ j,j<t.1→(Cf es j).toNat<2 ^ t.2.1)∧t.2.1≤64∧Ctx w0 [] w' [(bf,Bl 2 (BN (fun _=>0) es.length)),(bo,Bl 2 (BN (fun _=>0) N)),(q,Bl 59 t.2.2),(bs,Bl 254 (SC N (some ⟨q,0,none⟩) es.length ce bf bp bo 0)),(bp,Bl 2 (BN (fun _=>0) N)),(b2,Bl 53 [.slice none 0 0,.slice none 0 0]),(b1,Bl 51 [.int .i64 (N:Int),.slice a es.length c])]) (fun t=>es.length - t.1) (0,0,full) U ?_ ?_ ?_)
   ·exact ⟨rfl,rfl,trivial⟩
   ·refine ⟨Nat.zero_le _,?_,fun j h=>absurd h (Nat.not_lt_zero _),by dsimp only; omega,H⟩;rw [JL (d:=Cf es) fun i _=>by unfold IJ; rw [if_neg (Nat.not_lt_zero _)],NK];exact O
   ·rintro ⟨i,m,full⟩ j w ⟨hi,O,hm,hm6,H⟩; dsimp only at hi O hm hm6 H; dsimp only;refine Ad (Bj U U U (Ab (Aa (Aw (Aq _ U ?_ ?_)))))
    ·intro h2;replace h2:=AM h2;have hil:i<es.length:=by omega
     obtain ⟨e,he⟩:=AD hil;have hee:=Ez (hall e (List.mem_of_getElem? he));obtain ⟨cc,hcc⟩:∃ cc:Nat,e.cap=cc:=⟨e.cap.toNat,by omega⟩;have henc:C4 e=[.int .i64 e.f,.int .i64 e.t,.int .i64 (cc:Int),.int .i64 e.cost]:=by unfold C4; rw [hcc]
     have hOl:=O.len;have hOe:=O.le;refine Av (Aa (Aw (Az (Ad (Af U U (Bo R U CW CX U U (by omega) (by omega) (by rfl) ?_))))));refine Cn _ U Ib CX U U (Rd.rowE (R.ext0 H.ext) he henc U) ?_;refine AZ U GZ H ?_;rintro b8 w - H;refine Ae U U (Bn U CX U U U (by simp [Be]) H at0 U ?_);rintro w H;refine Ab (Aa (Ad (A3 U U (A8 U U (Ah U Gs U (Ah U CN U (AE U Ei U H at4 U (Af U U (Bh U CW CX U U (by omega) (by omega) ?_)))))))));refine Ah U EG U (Cg (.int _ _) U Bx U U U H at3 (by omega) ?_);rintro w H;refine Ab (Aa (A0 (Af U U (Ah U EG U (AE U Bw U H at0 U (Er U U VD EZ (by omega) (by omega) ?_))))));refine Al U Xy (RC cc (by omega) _) U ?_;rintro v w ⟨r,rfl,hr1,hr2,-,rfl⟩;refine KD U U U ?_;refine Ae U U (Ab (A6 (Aa (A0 (Ay U U U (by omega) (by omega) ?_)))));refine Af U U (Ab (Aa ?_));rw [show 0+((i:Int)).toNat*4+2=i*4+2 by omega] at H
     have O1:=OS.setf O (y:=edC es (IJ (Cf es) (fun _=>0) (i+1)) i) (j:=2) (v := .int .i64 0) (fun _=>rfl) (II (c:=IJ (Cf es) (fun _=>0) i) hil) (by decide) (by unfold edC C4 IJ; dsimp only; rw [if_pos (by omega)]; rfl);rw [UJ rfl (fun j _ hj=>UM hj)] at O1;have hce:Cf es i=(cc:Int):=by unfold Cf; rw [Bm he,hcc]
     refine ⟨(i+1,max m r,full.set (i*4+2) (.int .i64 0)),rfl,⟨rfl,congrArg (Value.int .i64) (by dsimp only; omega),trivial⟩,⟨by dsimp only; omega,O1,fun j hj=>?_,by dsimp only; omega,H.tail⟩,by dsimp only; omega⟩;dsimp only at hj ⊢
     by_cases ej:j=i
     ·subst ej;rw [hce];exact Nat.lt_of_lt_of_le (by omega) (Nat.pow_le_pow_right (by decide) (Nat.le_max_right m r))
     ·exact Nat.lt_of_lt_of_le (hm j (by omega)) (Nat.pow_le_pow_right (by decide) (Nat.le_max_left m r))
    ·intro h2;replace h2:=AN h2;obtain rfl:i=es.length:=by omega
     rw [JL (d:=FR es m) fun i hi=>by unfold IJ FR; rw [if_pos hi,Nat.div_eq_of_lt (hm i hi)]; rfl] at O;refine Bt (Am (Am (AK (Aa (Ad (Af U U (Ae U U (Ab (Aa (Aw (P7 (Aa (Aw (Az (Bv 147429837401600557568 (α:=PSt) (fun t=>[(9,.int .i64 (t.j:Int))]) (fun t w'=>t.j≤64∧OS (some ⟨q,0,none⟩) es.length ce 4 t.full ((esC es (FR es t.j)).flatMap C4)∧Fine g (FR es t.j) t.x t.p∧(∀ v,v<N→B6 g t.x v=0)∧(∀ v,v<N→t.ov v=0)∧(∀ v,v<N → -1073741824≤t.p v∧t.p v≤1073741824)∧Ctx w0 [] w' [(bf,Bl 2 (BN (t.x) es.length)),(bo,Bl 2 (BN (t.ov) N)),(q,Bl 59 t.full),(bs,Bl 254 (SC N (some ⟨q,0,none⟩) es.length ce bf bp bo t.kk)),(bp,Bl 2 (BN (t.p) N)),(b2,Bl 53 [.slice none 0 0,.slice none 0 0]),(b1,Bl 51 [.int .i64 (N:Int),.slice a es.length c])]) (fun t=>t.j) ⟨m,full,fun _=>0,fun _=>0,fun _=>0,0⟩ U ?_ ?_ ?_)))))))))))))))
     ·exact ⟨rfl,trivial⟩
     ·refine ⟨hm6,O,⟨fun i hi=>⟨Int.le_refl _,(MK hr m i (by omega)).1⟩,fun a ha hra=>?_⟩,fun v _=>YO g v,fun _ _=>rfl,fun _ _=>⟨by dsimp only; omega,by dsimp only; omega⟩,H⟩;exfalso;unfold C6 at hra;have hai:a / 2<es.length:=by omega
      have hk0:FR es m (a / 2)=0:=by unfold FR; rw [Nat.div_eq_of_lt (hm _ hai)]; rfl
      dsimp only at hra;rw [hk0] at hra
      split at hra <;> omega
     ·rintro ⟨j,full,x,p,ov,kk⟩ jj w ⟨hj6,O,hF,hx0,hov,hpb,H⟩; dsimp only at hj6 O hF hx0 hov hpb H; dsimp only
      rcases j with _ | j
      ·skip
       refine Az (Aw (Ad (Af U U (Bp U U U (by omega) (by omega) ?_))));refine Ae U U (Ab (Aa (Ad (Af U U (Bj U U U (Ab (Aa (Aq _ U ?_ ?_))))))))
       ·intro h3;replace h3:=AM h3;refine Bt (Am (ER U (Am (AK (Aa (Cv [([0,1,2,3,4,5,6,7,8,9,10,11,12],13),([14],15)] (fun z=>z.heap[bs]? = some (Bl 254 (SC N (some ⟨q,0,none⟩) es.length ce bf bp bo kk))) [] Bq (by kernel_rfl) (H.drew.get at3) ?_))))));refine AH U U ?_;refine BQ U U (Bg U U (An U E1 U (B0 U BL U (fun _ hx=>(by rw [Aj hx]; rfl)) ?_)));refine BQ U U (Bg U U (An U E3 U (B0 U BL U (fun _ hx=>(by rw [Aj hx]; rfl)) ?_)));refine QO [.slice (some ⟨bf,0,none⟩) es.length es.length,.slice (some ⟨bp,0,none⟩) N N] U Ack U4 U ?_;refine BQ U U (Bg U U (An U Ny U (B0 U BS U (fun _ hx=>(by rw [Aj hx]; rfl)) ?_)));refine AS ?_;replace H:=H.drew;refine Bn U Mf U U U (by simp [Be]) H at5 U ?_;rintro w H;refine Ab (Cl (H.get at3) (AH U U ?_));refine JD U U (AS (Ae U U (Ab (Cl (H.get at3) (BJ (A5 (Vr (ZT U U U Ra Mf H at5 U (show _=(.int _ _) from rfl) (show _=(.int _ _) from rfl) ?_))))))))
        refine ⟨bf,bp,x,p,kk,rfl,LK hF fun i hi=>(VS hr i (by omega)).symm,hx0,hpb,H.sub (fun y hy=>?_) ?_⟩
        ·simp only [List.mem_cons,List.not_mem_nil,or_false] at hy
         rcases hy with rfl | rfl
         ·exact List.mem_of_getElem? (i:=0) U
         ·exact List.mem_of_getElem? (i:=4) U
        ·simp only [List.pairwise_cons,List.mem_singleton,forall_eq,List.not_mem_nil,false_imp_iff,implies_true,List.Pairwise.nil,and_true];exact H.ne at0 at4 (by decide)
       ·intro h3;replace h3:=AN h3;omega
      ·skip
       refine Az (Aw (Ad (Af U U (Bp U U U (by omega) (by omega) ?_))));rw [show ((j+1:Nat):Int) - 1=(j:Int) by omega];refine Ae U U (Ab (Aa (Ad (Af U U (Bj U U U (Ab (Aa (Aq _ U ?_ ?_))))))))
       ·intro h3;replace h3:=AM h3;omega
       ·intro h3;replace h3:=AN h3;have hF1:=N9 hF (cap':=FR es j) fun i _=>OT es j i;obtain ⟨x1,hx1⟩:∃ x1,x1=Jt g (FR es j) x p:=⟨_,rfl⟩;refine Av (Aa (Ad (A3 U U (Ce U CV C7 U H at6 U (Af U U (Al U Aei (Yr (bf:=bf) (bo:=bo) (ae:=some ⟨q,0,none⟩) (Ctx.lend (L1:=[_,_,_]) (L2:=[_,_,_,_]) H) O (H.get at3) (Gi (L:=[_,_,_]) H.nd (x:=(bs,_)) (List.mem_of_getElem? (i:=0) U)) (H.get at4) (Gi (L:=[_,_,_]) H.nd (x:=(bp,_)) (List.mem_of_getElem? (i:=1) U)) (R.ext0 H.ext) (fun hne hm=>by have h7:=Rd.lt R hne (fun x _=>⟨_,rfl⟩) (by decide); have h8:=(Ctx.left (L:=[_,_,_]) (L':=[_,_,_,_]) H).own; obtain ⟨y,hy,he⟩:=List.mem_map.1 hm; rcases h8 y hy with h | h; cases h; omega) hr (by omega) (fun i _=>OT es j i) (by rw [← hg]; exact hF) (by rw [← hg]; exact hx0) hov hpb) U ?_))))));rintro rv w ⟨rfl,full',O',H2⟩;rw [← hg] at H2;replace H:=Ctx.back (L1:=[_,_,_]) (L2:=[_,_,_,_]) H H2;refine Ab (Aa (Az ?_))
        rw [← hx1] at hF1 H;refine Bv 110680464442257309696 (α:=FSt) (fun _=>[]) (fun t w'=>Fine g (FR es j) t.x t.p∧(∀ v,v<N→t.ov v=B6 g t.x v)∧(∀ v,v<N → -1073741824≤t.p v∧t.p v≤1073741824)∧Ctx w0 [] w' [(bf,Bl 2 (BN (t.x) es.length)),(bo,Bl 2 (BN (t.ov) N)),(q,Bl 59 full'),(bs,Bl 254 (SC N (some ⟨q,0,none⟩) es.length ce bf bp bo t.kk)),(bp,Bl 2 (BN (t.p) N)),(b2,Bl 53 [.slice none 0 0,.slice none 0 0]),(b1,Bl 51 [.int .i64 (N:Int),.slice a es.length c])]) (fun t=>(Hd g t.x).toNat) ⟨x1,p,B6 g x1,kk⟩ U ?_ ?_ ?_
        ·exact trivial
        ·exact ⟨hF1,fun _ _=>rfl,hpb,H⟩
        ·rintro ⟨x,p,ov,kk⟩ jj2 w ⟨hF,hov,hpb,H⟩; dsimp only at hF hov hpb H; dsimp only;refine Aw (Ad (A3 U U ?_));have Hq:=H.perm perm5;refine Al U Aej (Ag0 (bs:=bs) (bf:=bf) (bp:=bp) (bo:=bo) (N:=N) (n:=es.length) (ae:=some ⟨q,0,none⟩) (ce:=ce) (es:=esC es (FR es j)) (g:=g) (cap:=FR es j) (IH es _) (by rw [grE_C,← hg]) (fun i hi=>Agl hi) (Ctx.lend (L1:=[_,_,_,_,_]) (L2:=[_,_]) Hq) O' (UK hr (MK hr j)) hF hov hpb) U ?_;rintro rv w ⟨b,x',p',ov',kk',rfl,H2,hF',hov',hpb',hb0,hb1⟩;replace H:=(Ctx.back (L1:=[_,_,_,_,_]) (L2:=[_,_]) Hq H2).perm perm5.symm;refine Ab (Aa (Aq _ U ?_ ?_))
         ·intro h4;refine Av (Aa (Az (Av (A6 (Aa ?_)))));have h5:=hb1 h4;have h6:=VH g x';exact ⟨⟨x',p',ov',kk'⟩,rfl,trivial,⟨hF',hov',hpb',H⟩,by dsimp only; omega⟩
         ·intro h4;refine Bt (Am (Am (AK (A6 (Aa ?_)))));have hz:∀ v,v<N→B6 g x' v=0:=fun v hv=>Rl hgo (fun u hu=>hb0 h4 u (by omega)) v (by omega);exact ⟨⟨j,full',x',p',ov',kk'⟩,rfl,⟨rfl,trivial⟩,⟨by dsimp only; omega,O',hF',hz,fun v hv=>(hov' v hv).trans (hz v hv),hpb',H⟩,by dsimp only; omega⟩

end Go.Proofs.YtdagmpmdcgedcaaGreat

/- Whether what flows is the best: plain law; rounds as they lie in memory. -/
namespace Go.Proofs.YtdagmpmdcgedcaaGreat
open Go.GV
attribute [local irreducible] AB W Wq Wt

theorem Vb {N:Int} {es:List Ed} {pot:List Int} (hr:Cp N es=true) {k:Nat} (hk:k<2*es.length):Yb N es pot (k:Int)=(grE N es).len (E7 pot) k:=by
 obtain ⟨e,he,hE,-⟩:=Qg hr hk;unfold Yb Gr.len Gr.c Gr.u Gr.v;rw [hE];unfold Ht
 rcases Nat.mod_two_eq_zero_or_one k with h | h
 ·rw [if_pos h,if_pos h,if_pos h,Sb he,RZ he,Sa he,if_neg (by omega)]; rfl
 ·rw [if_pos h,if_neg (show ¬ k % 2=0 by omega),if_neg (show ¬ k % 2=0 by omega),if_neg (show ¬ k % 2=0 by omega),Sb he,RZ he,Sa he]; rfl
theorem Sg {N:Int} {es:List Ed} {fl:List Int} (hw:Cb N es fl=true) {k:Nat} (hk:k<2*es.length):Ka N es fl (k:Int)=C6 (Cf es) (flE fl) k:=by
 obtain ⟨e,x,he,hx,hro,-⟩:=Qh hw hk;rw [hro];unfold Mm C6 Cf flE;rw [Bm he,Bm hx]
 rcases Nat.mod_two_eq_zero_or_one k with h | h
 ·rw [if_neg (by omega),if_pos h]
 ·rw [if_pos h,if_neg (by omega)]
theorem YP {N:Int} {es:List Ed} {fl:List Int} (hw:Cb N es fl=true) (h:∀ v,v<N.toNat→B6 (grE N es) (flE fl) v=0):Fs N es fl=true:=by
 unfold Fs Mn;rw [hw,Bool.true_and,List.all_eq_true];intro x hx;obtain ⟨i,hi⟩:=List.mem_iff_getElem?.1 hx;obtain ⟨h1,rfl⟩:=NB hi;exact decide_eq_true (h i h1)
/-- What is accepted: what flows, whole numbers of the nodes, none too great, and they fit. -/
theorem F5 {N:Int} {es:List Ed} {fl pot:List Int}:Fc N es fl pot=true↔Fs N es fl=true∧FQ N pot=true∧Fine (grE N es) (Cf es) (flE fl) (E7 pot):=by
 have hE:(grE N es).E=es.length:=rfl;unfold Fc;simp only [Bool.and_eq_true];constructor
 ·rintro ⟨hr,hf,hp,ht⟩;have hw:=(E4 hf).1;obtain ⟨hl,-,hin⟩:=Ck hw;refine ⟨hf,hp,fun i hi=>?_,fun a ha hro=>?_⟩
  ·rw [hE] at hi;obtain ⟨e,he⟩:=AD hi;obtain ⟨x,hx⟩:=AD (l:=fl) (i:=i) (by omega);unfold flE Cf;rw [Bm he,Bm hx];exact hin i e x he hx
  ·rw [hE] at ha;have h1:=List.all_eq_true.1 ht a (List.mem_range.2 ha);unfold IC at h1;rw [Vb hr ha,Sg hw ha,decide_eq_true hro,Bool.and_true,Bool.not_eq_true',decide_eq_false_iff_not] at h1;omega
 ·rintro ⟨hf,hp,hF⟩;have hw:=(E4 hf).1;obtain ⟨hl,hr,hin⟩:=Ck hw;refine ⟨hr,hf,hp,List.all_eq_true.2 fun a ha=>?_⟩;rw [List.mem_range] at ha;unfold IC;rw [Vb hr ha,Sg hw ha,Bool.not_eq_true']
  by_cases h:0<C6 (Cf es) (flE fl) a
  ·rw [decide_eq_false (by have:=hF.fit a ha h; omega),Bool.false_and]
  ·rw [decide_eq_false h,Bool.and_false]
/-- What is told by the solver is accepted. -/
theorem TT {N:Nat} {es:List Ed} {x p:Nat→Int} (hr:Cp (N:Int) es=true) (hF:Fine (grE (N:Int) es) (Cf es) x p) (ho:∀ v,v<N→B6 (grE (N:Int) es) x v=0) (hp:∀ v,v<N → -1073741824≤p v∧p v≤1073741824):Fc (N:Int) es (tab x es.length) (tab p N)=true:=by
 have hx:∀ i,i<es.length→flE (tab x es.length) i=x i:=fun i hi=>Aaw hi;have hq:∀ v,v<N→E7 (tab p N) v=p v:=fun v hv=>Bm (BO hv)
 have hw:Cb (N:Int) es (tab x es.length)=true:=by
  unfold Cb;rw [hr,CT,decide_eq_true rfl];refine List.all_eq_true.2 fun b hb=>?_;obtain ⟨i,hi⟩:=List.mem_iff_getElem?.1 hb;have hl:=Cu hi;rw [List.length_zipWith,CT] at hl;obtain ⟨e,he⟩:=AD (l:=es) (i:=i) (by omega);rw [NA he (BO (f:=x) (by omega))] at hi
  injection hi with hi
  have h1:=hF.in' i (by show i<es.length; omega);unfold Cf at h1;rw [Bm he] at h1;rw [← hi];show inB e (x i)=true;unfold inB;rw [decide_eq_true h1.1,decide_eq_true h1.2]; rfl
 refine F5.2 ⟨YP hw fun v hv=>?_,?_,NI (IG hr) (YN hF hx) hq⟩
 ·rw [Kp hx];exact ho v hv
 ·unfold FQ;rw [CT,decide_eq_true rfl,Bool.and_true,List.all_eq_true];intro y hy;obtain ⟨i,hi⟩:=List.mem_iff_getElem?.1 hy;obtain ⟨h1,rfl⟩:=NB hi;have:=hp i h1;unfold M1;rw [Bool.and_eq_true,decide_eq_true_eq,decide_eq_true_eq];omega
theorem NT {ds es:List Du} (h:Y1 ds es) (hs:(es.map (·.id)).Pairwise (·<·)):ds=es:=by
 obtain ⟨hp,hd⟩:=h
 induction es generalizing ds with
 | nil=>exact hp.eq_nil
 | cons e es ih =>
  cases ds with
  | nil=>exact absurd hp.symm.eq_nil (by simp)
  | cons d ds =>
   rw [List.map_cons,List.pairwise_cons] at hs hd
   have hde:d=e:=by
    rcases List.mem_cons.1 (hp.mem_iff.1 (List.mem_cons_self ..)) with h | h
    ·exact h
    ·rcases List.mem_cons.1 (hp.mem_iff.2 (List.mem_cons_self ..)) with h2 | h2
     ·exact h2.symm
     ·have h3:=hs.1 d.id (List.mem_map_of_mem (f:=fun d:Du=>d.id) h);have h4:=hd.1 e.id (List.mem_map_of_mem (f:=fun d:Du=>d.id) h2);omega
   subst hde;rw [ih hs.2 (List.Perm.cons_inv hp) hd.2]

/-! ### Rounds in memory -/
structure Rnd where
 no:Int
 day:Int
 cmp:Bool
 ids:List Int
 N:Int
 es:List Ed
 fl:List Int
 pot:List Int
structure RSl where
 aI:Option Addr
 cI:Nat
 aE:Option Addr
 cE:Nat
 aF:Option Addr
 cF:Nat
 aP:Option Addr
 cP:Nat
abbrev Bz (r:Rnd) (q:RSl):List Value:=[.int .u64 r.no,.int .i64 r.day,.bool r.cmp,.slice q.aI r.ids.length q.cI,.int .i64 r.N,.slice q.aE r.es.length q.cE,.slice q.aF r.fl.length q.cF,.slice q.aP r.pot.length q.cP]
structure RAt (w:World) (r:Rnd) (q:RSl):Prop where
 I:Rd w q.aI 1 U1 r.ids
 E:Rd w q.aE 4 C4 r.es
 F:Rd w q.aF 1 I1 r.fl
 P:Rd w q.aP 1 I1 r.pot
 fc:r.fl.length≤q.cF
/-- A round's blocks are none of these. -/
structure ROff (q:RSl) (r:Rnd) (S:Nat→Prop):Prop where
 I:r.ids≠[]→¬ S (adr q.aI).block
 E:r.es≠[]→¬ S (adr q.aE).block
 F:r.fl≠[]→¬ S (adr q.aF).block
 P:r.pot≠[]→¬ S (adr q.aP).block
theorem RAt.ext {w w':World} {r:Rnd} {q:RSl} {S:List Nat} (h:RAt w r q) (he:Ext S w w') (hn:ROff q r (·∈S)):RAt w' r q :=
 ⟨h.I.ext' he hn.I,h.E.ext' he hn.E,h.F.ext' he hn.F,h.P.ext' he hn.P,h.fc⟩
theorem RAt.ext0 {w w':World} {r:Rnd} {q:RSl} (h:RAt w r q) (he:Ext [] w w'):RAt w' r q:=h.ext he ⟨fun _=>by simp,fun _=>by simp,fun _=>by simp,fun _=>by simp⟩
theorem ROff.mono {q:RSl} {r:Rnd} {S S':Nat→Prop} (h:ROff q r S) (hs:∀ x,S' x→S x):ROff q r S':=⟨fun g k=>h.I g (hs _ k),fun g k=>h.E g (hs _ k),fun g k=>h.F g (hs _ k),fun g k=>h.P g (hs _ k)⟩
theorem RAt.lt {w:World} {r:Rnd} {q:RSl} (h:RAt w r q):ROff q r (fun x=>w.heap.size≤x) :=
 ⟨fun g=>Nat.not_le.2 (h.I.lt' (fun _ _=>rfl) (by decide) g),fun g=>Nat.not_le.2 (h.E.lt' (fun _ _=>rfl) (by decide) g),fun g=>Nat.not_le.2 (h.F.lt' (fun _ _=>rfl) (by decide) g),fun g=>Nat.not_le.2 (h.P.lt' (fun _ _=>rfl) (by decide) g)⟩
/-- Accounts, to be read. -/
def AcAt (w:World) (t:TypeId) (bx:Nat) (acs:List Ac):Prop:=∃ a c,w.heap[bx]? = some (Bl t [.slice a acs.length c])∧Rd w a 2 CP acs
def DuAt (w:World) (bd:Nat) (ds:List Du):Prop:=∃ b nx o,w.heap[bd]? = some (Bl 165 (DU b nx))∧w.heap[b]? = some o∧CL .u64 (dm ds) o
theorem AcAt.ext0 {w w':World} {t:TypeId} {bx:Nat} {acs:List Ac} (h:AcAt w t bx acs) (he:Ext [] w w'):AcAt w' t bx acs:=by
 obtain ⟨a,c,h1,h2⟩:=h;exact ⟨a,c,he.to h1 (by simp),h2.ext0 he⟩
theorem DuAt.ext0 {w w':World} {bd:Nat} {ds:List Du} (h:DuAt w bd ds) (he:Ext [] w w'):DuAt w' bd ds:=by
 obtain ⟨b,nx,o,h1,h2,h3⟩:=h;exact ⟨b,nx,o,he.to h1 (by simp),he.to h2 (by simp),h3⟩
theorem JO {bx:Nat} {acs:List Ac} (ha:ED acs=0) (w:World) (A:AcAt w 162 bx acs) :
  Ret Tryz.prog 180 #[ptr bx] w fun v w'=>Ext [] w w'∧∃ a c,v = .slice a (acs.map Dl).length c∧Rd w' a 1 I1 (acs.map Dl):=by
 obtain ⟨h1,h2,-⟩:=Ch.1 ha;obtain ⟨a,c,g1,g2⟩:=A;refine Ret.mono (Y4 a acs.length c acs w g1 g2 U (by omega) h2) fun v w' F=>⟨F.ext,?_⟩;obtain ⟨a',n',c',f',rfl,O,hb⟩:=F.ex;obtain rfl:=O.num;exact ⟨a',c',rfl,O.rd1 fun x hx=>(hb x hx).1⟩
theorem Ip {bd:Nat} {ds:List Du} {nx:Int} (hd:ofC ds nx=0) (w:World) (D:DuAt w bd ds) :
  Ret Tryz.prog 50 #[ptr bd] w fun v w'=>Ext [] w w'∧∃ a c,v = .slice a ds.length c∧Rd w' a 7 CO ds:=by
 obtain ⟨h1,-,h3,-⟩:=EU.1 hd;obtain ⟨b,nx',o,g1,g2,g3⟩:=D;refine Ret.mono (NN w g1 g2 g3 (Lp hd) (by omega)) ?_;rintro v w' ⟨ds',hS,F⟩;obtain rfl:=NT hS (J2 h3).2.1;refine ⟨F.ext,?_⟩;obtain ⟨a',n',c',f',rfl,O,hb⟩:=F.ex;obtain rfl:=O.numN (fun _ _=>rfl) (by decide);exact ⟨a',c',rfl,OS.rd O (fun x hx=>(hb x hx).1) (fun _ _=>rfl) (by decide)⟩
end Go.Proofs.YtdagmpmdcgedcaaGreat

/- A round, planned: the walk. -/
namespace Go.Proofs.YtdagmpmdcgedcaaGreat
open Go.GV
attribute [local irreducible] AB W Wq Wt

/-- What a plan is. -/
structure PlanR (acs:List Ac) (ds:List Du) (net:Bool) (r:Rnd):Prop where
 no:r.no=0
 day:r.day=0
 cmp:r.cmp=net
 ids:r.ids=(opn ds).map Du.id
 N:r.N=((acs.length+1:Nat):Int)
 es:r.es=BA (acs.map Dl) (opn ds) net
 chk:Fc r.N r.es r.fl r.pot=true
def rnd0:List Value:=[.int .u64 0,.int .i64 0,.bool false,.slice none 0 0,.int .i64 0,.slice none 0 0,.slice none 0 0,.slice none 0 0]
def Abj (w:World) (acs:List Ac) (ds:List Du) (net:Bool) (v:Value) (w':World):Prop :=
 Ext [] w w'∧((Dr (acs.map Dl) ds=false∧v = .tuple #[.agg rnd0.toArray,.int .i64 1]) ∨
  (Dr (acs.map Dl) ds=true∧∃ r q,v = .tuple #[.agg (Bz r q).toArray,.int .i64 0]∧PlanR acs ds net r∧RAt w' r q∧ROff q r (fun x=>x<w.heap.size)))
set_option maxRecDepth 20000 in
set_option maxHeartbeats 4000000 in
theorem Vc {bx bd:Nat} {acs:List Ac} {ds:List Du} {nx:Int} (ha:ED acs=0) (hd:ofC ds nx=0) (net:Bool) (w:World) (A:AcAt w 162 bx acs) (D:DuAt w bd ds) :
  Ret Tryz.prog 112 #[ptr bx,ptr bd,.bool net] w (Abj w acs ds net):=by
 obtain ⟨w0,rfl⟩:∃ w0,w0=w:=⟨_,rfl⟩;have H:=Ctx.start w0 [];have hn16:=(Ch.1 ha).1;have hm64:=(EU.1 hd).1;obtain ⟨rs,hrs⟩:∃ rs,rs=acs.map Dl:=⟨_,rfl⟩;have hrl:rs.length=acs.length:=by rw [hrs,List.length_map]
 refine Au (fn:=Tryz.f112) Tryz.func112 U [.pointer (some ⟨bx,0,none⟩),.pointer (some ⟨bd,0,none⟩),.bool net] U (by kernel_rfl) ?_;refine Ad (AZ U HC H ?_);rintro b6 w - H;refine Ae U U (Ab (Aa (Aw (Ad (Cw (α:=Unit) 516096 (fun _=>[(18,.bool (false))]) (fun _ w'=>Ctx w0 [] w' [(b6,Bl 55 rnd0)]) U ?_ ?_)))))
 ·refine A3 U U (Cq U Mg U ?_);refine A7 U U (AV 15 U ?_ ?_)
  ·intro h1;refine Ag U (Ag U (AG U U (.bool _) U (Ab ?_)));exact ⟨rfl,(),rfl,⟨congrArg Value.bool (by simp_all),trivial⟩,H⟩
  ·intro h2;refine A3 U U (Cq U I9 U ?_);refine AJ U U (.bool _) U (Ab ?_);exact ⟨rfl,(),rfl,⟨congrArg Value.bool (by rfl),trivial⟩,H⟩
 rintro - j18 w H;refine G9 U (Av (Aa ?_));cases hbb:Dr rs ds
 ·skip
  refine Ad (A3 U U (Al U PL (JO ha _ (A.ext0 H.ext)) U ?_));rintro v w ⟨hx22,a2,c2,rfl,R2⟩;rw [← hrs] at R2 ⊢;replace H:=H.call hx22;refine A3 U U (Al U Me (Ip hd _ (D.ext0 H.ext)) U ?_);rintro v w ⟨hx24,a3,c3,rfl,R3⟩;replace H:=H.call hx24;replace R2:=R2.ext0 hx24;refine A7 U U (Al U LF (GR a2 a3 _ c2 _ c3 rs ds net _ R2 U (by omega) R3 U (by omega)) U ?_);rintro v w ⟨hx26,⟨-,rfl⟩ | ⟨hb1,-⟩⟩
  rotate_left
  (rw [hbb] at hb1; cases hb1)
  replace H:=H.call hx26;refine C0 U U (AO U U U (AO U U U (AO U U U (AZ U Mi H ?_))));rintro b8 w - H;refine Bn U C7 U U U (by simp [Be]) H at0 U ?_;rintro w H;refine A1 U U (Ae U U (Ab (Aa (Aw (Ad (Af U U (CI U U U (Ab (Aa (Aq _ U ?_ ?_))))))))))
  ·intro h1;replace h1:=CE h1;refine Ad (B7 [.int .u64 0,.int .i64 0,.bool false,.slice none 0 0,.int .i64 0,.slice none 0 0,.slice none 0 0,.slice none 0 0] U U3 HC (by kernel_rfl) ?_);refine Af U U (Bn U DB U U U (by simp [Be]) H at1 U ?_);rintro w H;refine Ae U U (Ab (Aa (A5 (Ao (Hy U U U G6 DB H at1 U (show _=(.int _ _) from rfl) ?_)))));exact ⟨H.ext,.inl ⟨by rw [← hrs]; exact hbb,rfl⟩⟩
  ·intro h1;replace h1:=CF h1;cases h1
 ·skip
  have hB:=(Hm (by omega)).1 hbb;obtain ⟨es,hes⟩:∃ es,es=BA rs (opn ds) net:=⟨_,rfl⟩;refine Ad (A3 U U (Al U PL (JO ha _ (A.ext0 H.ext)) U ?_));rintro v w ⟨hx22,a2,c2,rfl,R2⟩;rw [← hrs] at R2 ⊢;replace H:=H.call hx22;refine A3 U U (Al U Me (Ip hd _ (D.ext0 H.ext)) U ?_);rintro v w ⟨hx24,a3,c3,rfl,R3⟩;replace H:=H.call hx24;replace R2:=R2.ext0 hx24;refine A7 U U ?_;have hlb:=H.lt at0;refine Al U LF (GR a2 a3 _ c2 _ c3 rs ds net _ R2 U (by omega) R3 U (by omega)) U ?_;rintro v w ⟨hx26,⟨hb1,-⟩ | ⟨-,aE,nE,cE,vI,rfl,SE,SI⟩⟩
  (rw [hbb] at hb1; cases hb1)
  replace H:=H.call hx26;rw [← hes] at SE;obtain ⟨aE,cE,hE1,-,RE,hEn⟩:=SE.ex;obtain ⟨aI,cI,rfl,-,RI,hIn⟩:=SI.ex;cases hE1;have hx026:=H.ext;have hb60:w0.heap.size≤b6:=(H.own _ (List.mem_cons_self ..)).elim (fun h=>by cases h) id;obtain ⟨w26,rfl⟩:∃ z,z=w:=⟨_,rfl⟩;replace H:=Ctx.lend (L1:=[_]) (L2:=[]) H;dsimp only [List.map] at H;have hs24:=hx26.size;refine C0 U U (AO U U U (AO U U U (AO U U U (AZ U Mi H ?_))));rintro b8 w - H;refine Bn U C7 U U U (by simp [Be]) H at0 U ?_;rintro w H;refine A1 U U (Ae U U (Ab (Aa (Aw (Ad (Af U U (CI U U U (Ab (Aa (Aq _ U ?_ ?_))))))))))
  ·intro h1;replace h1:=CE h1;exact absurd U h1
  ·intro h1;replace h1:=CF h1;have hri:Cp ((rs.length+1:Nat):Int) es=true:=by rw [hes]; exact hB.right net
   have hE6:es≠[]→(adr aE).block∉[b6]:=fun h=>by have:=hEn h; rw [List.mem_singleton]; omega
   have hI6:(opn ds).map Du.id≠[]→(adr aI).block∉[b6]:=fun h=>by have:=hIn h; rw [List.mem_singleton]; omega
   have hE26:=RE.lt' (fun _ _=>rfl) (by decide);have hI26:=RI.lt' (fun _ _=>rfl) (by decide);refine Av (Aa (Ad (Ce U CV C7 U H at0 U ?_)));have hl8:=H.lt at0;have hl6:=H.lt at1;refine Al U Ad7 (Abi (rs.length+1) aE cE es _ (RE.ext' H.ext hE6) hri) U ?_;rintro v w ⟨bf,bp,x,p,k,rfl,hF,hov,hpb,HB⟩;replace H:=H.call HB.ext;have RF:Rd w (some ⟨bf,0,none⟩) 1 I1 (tab x es.length):=Cs (HB.get at0);have RP:Rd w (some ⟨bp,0,none⟩) 1 I1 (tab p (rs.length+1)):=Cs (HB.get at1);have hbf:=(HB.own _ (List.mem_of_getElem? at0)).elim (fun h=>by cases h) id;have hbp:=(HB.own _ (List.mem_of_getElem? at1)).elim (fun h=>by cases h) id;dsimp only at hbf hbp;replace RE:=RE.ext' H.ext hE6;replace RI:=RI.ext' H.ext hI6;have hb80:=(H.own _ (List.mem_of_getElem? at0)).elim (fun h => .inl (List.mem_singleton.1 h)) Or.inr;have hx036:=hx026.then H.ext (fun x hx => .inr (by rw [List.mem_singleton.1 hx]; exact hb60))
   have hs36:=HB.ext.size;have hs26:=H.size;obtain ⟨w36,rfl⟩:∃ z,z=w:=⟨_,rfl⟩;replace H:=Ctx.lend (L1:=[_,_]) (L2:=[]) H;dsimp only [List.map] at H;refine C0 U U (AO U U U (AO U U U (AO U U U (AZ U U4 H ?_))));rintro b11 w - H;refine Bn U Mf U U U (by simp [Be]) H at0 U ?_;rintro w H;refine Ae U U (Ae U U (Ab (Aa (Aw (Ad (Af U U (CI U U U (Ab (Aa (Aq _ U ?_ ?_))))))))))
   ·intro h2;replace h2:=CE h2;exact absurd U h2
   ·intro h2;replace h2:=CF h2;obtain ⟨r,hr⟩:∃ r:Rnd,r=⟨0,0,net,(opn ds).map Du.id,((rs.length+1:Nat):Int),es,tab x es.length,tab p (rs.length+1)⟩:=⟨_,rfl⟩;obtain ⟨q,hq⟩:∃ q:RSl,q=⟨aI,cI,aE,cE,some ⟨bf,0,none⟩,es.length,some ⟨bp,0,none⟩,rs.length+1⟩:=⟨_,rfl⟩
    have hcells:Bz r q=[.int .u64 0,.int .i64 0,.bool net,.slice aI ((opn ds).map Du.id).length cI,.int .i64 ((rs.length+1:Nat):Int),.slice aE es.length cE,.slice (some ⟨bf,0,none⟩) es.length es.length,.slice (some ⟨bp,0,none⟩) (rs.length+1) (rs.length+1)]:=by
     rw [hr,hq];unfold Bz;dsimp only;rw [CT,CT]
    refine Av (Aa (Ad (A7 U U (A4 U U (Ce U CV C7 U H at1 U (Ce U Ra Mf U H at0 U (B7 [.int .u64 0,.int .i64 0,.bool net,.slice aI ((opn ds).map Du.id).length cI,.int .i64 ((rs.length+1:Nat):Int),.slice aE es.length cE,.slice (some ⟨bf,0,none⟩) es.length es.length,.slice (some ⟨bp,0,none⟩) (rs.length+1) (rs.length+1)] U U3 HC (by kernel_rfl) ?_)))))));refine Bn U DB U U U (by simp [Be]) H at2 U ?_;rintro w H;refine Ae U U (Ab (Aa (A5 (Hy U U U G6 DB H at2 U (show _=(.int _ _) from rfl) ?_))))
    have h8:w0.heap.size≤b8:=by rcases hb80 with h | h <;> omega
    have hxx:=hx036.then H.ext fun x hx => .inr (by simp only [List.mem_cons,List.not_mem_nil,or_false] at hx; omega);refine ⟨hxx,.inr ⟨by rw [← hrs]; exact hbb,r,q,by rw [hcells],⟨by rw [hr],by rw [hr],by rw [hr],by rw [hr],by rw [hr,hrl],by rw [hr,← hrs]; exact hes,?_⟩,⟨?_,?_,?_,?_,?_⟩,⟨?_,?_,?_,?_⟩⟩⟩
    ·rw [hr]; exact TT hri hF hov hpb
    ·rw [hr,hq]; exact RI.ext' H.ext fun h=>by have h1:=hI26 h; have h2:=hI6 h; rw [List.mem_singleton] at h2; simp only [List.mem_cons,List.not_mem_nil,or_false]; rcases hb80 with h3 | h3 <;> omega
    ·rw [hr,hq]; exact RE.ext' H.ext fun h=>by have h1:=hE26 h; have h2:=hE6 h; rw [List.mem_singleton] at h2; simp only [List.mem_cons,List.not_mem_nil,or_false]; rcases hb80 with h3 | h3 <;> omega
    ·rw [hr,hq]; exact RF.ext' H.ext fun _=>by show bf∉[b8,b6]; simp only [List.mem_cons,List.not_mem_nil,or_false]; omega
    ·rw [hr,hq]; exact RP.ext' H.ext fun _=>by show bp∉[b8,b6]; simp only [List.mem_cons,List.not_mem_nil,or_false]; omega
    ·rw [hr,hq]; dsimp only; rw [CT]; exact Nat.le_refl _
    ·rw [hr,hq]; intro h; have:=hIn h; dsimp only; omega
    ·rw [hr,hq]; intro h; have:=hEn h; dsimp only; omega
    ·rw [hr,hq]; intro _; show ¬ bf<w0.heap.size; omega
    ·rw [hr,hq]; intro _; show ¬ bp<w0.heap.size; omega
end Go.Proofs.YtdagmpmdcgedcaaGreat

/- Whether a round is one of now: the walk. -/
namespace Go.Proofs.YtdagmpmdcgedcaaGreat
open Go.GV
attribute [local irreducible] AB W Wq Wt

/-- A round's net, as a call gives it. -/
def YQ (w:World) (rs:List Int) (ds:List Du) (net:Bool) (N:Int) (aE:Option Addr) (nE:Nat) (vI:Value) (code:Int):Prop :=
 (Dr rs ds=false∧code=1∧∃ aI nI cI,vI = .slice aI nI cI)∨(Dr rs ds=true∧code=0∧N=((rs.length+1:Nat):Int)∧nE=(BA rs (opn ds) net).length∧Rd w aE 4 C4 (BA rs (opn ds) net)∧∃ aI cI,vI = .slice aI ((opn ds).map Du.id).length cI∧Rd w aI 1 U1 ((opn ds).map Du.id))
theorem RoundRes.uni {w w':World} {rs:List Int} {ds:List Du} {net:Bool} {v:Value} (h:RoundRes w rs ds net v w'):Ext [] w w'∧∃ N aE nE cE aI nI cI code,v = .tuple #[DG N aE nE cE,.slice aI nI cI,.int .i64 code]∧∀ (S:List Nat) (w2:World),(∀ x∈S,x<w.heap.size)→Ext S w' w2→YQ w2 rs ds net N aE nE (.slice aI nI cI) code:=by
 obtain ⟨hx,⟨h1,rfl⟩ | ⟨h1,aE,nE,cE,vI,rfl,SE,SI⟩⟩:=h
 ·exact ⟨hx,_,_,_,_,_,_,_,_,rfl,fun _ _ _ _ => .inl ⟨h1,rfl,_,_,_,rfl⟩⟩
 ·obtain ⟨aE',cE',hE,-,RE,hEn⟩:=SE.ex;obtain ⟨aI,cI,rfl,-,RI,hIn⟩:=SI.ex;cases hE;exact ⟨hx,_,_,_,_,_,_,_,_,rfl,fun S w2 hS he => .inr ⟨h1,rfl,rfl,rfl,RE.ext' he (fun hn hm=>by have:=hEn hn; have:=hS _ hm; omega),_,_,rfl,RI.ext' he (fun hn hm=>by have:=hIn hn; have:=hS _ hm; omega)⟩⟩
/-- A round that was made of accounts and dues, beside one that is held against it. -/
structure NowZ where
 b:Nat
 N:Int
 aE:Option Addr
 nE:Nat
 cE:Nat
 aI:Option Addr
 nI:Nat
 cI:Nat
 code:Int
def NowI (w0:World) (rs:List Int) (ds:List Du) (net:Bool) (b5:Nat) (o5:Obj) (z:NowZ) (w:World):Prop :=
 Ext [] w0 w∧w.heap[b5]? = some o5∧w.heap[z.b]? = some (Bl 51 [.int .i64 z.N,.slice z.aE z.nE z.cE])∧YQ w rs ds net z.N z.aE z.nE (.slice z.aI z.nI z.cI) z.code
def M5 (acs:List Ac) (ds:List Du) (r:Rnd):Bool :=
 Dr (acs.map Dl) ds && (decide (((acs.length+1:Nat):Int)=r.N) && (decide (BA (acs.map Dl) (opn ds) r.cmp=r.es) && decide ((opn ds).map Du.id=r.ids)))
set_option maxRecDepth 20000 in
set_option maxHeartbeats 8000000 in
theorem Ag1 {bx bd:Nat} {acs:List Ac} {ds:List Du} {nx:Int} (ha:ED acs=0) (hd:ofC ds nx=0) {r:Rnd} {q:RSl} (w:World) (A:AcAt w 162 bx acs) (D:DuAt w bd ds) (RA:RAt w r q) (he:r.es.length≤1000000) (hi:r.ids.length≤1000000) :
  Ret Tryz.prog 183 #[ptr bx,ptr bd,.agg (Bz r q).toArray] w fun v w'=>v = .bool (M5 acs ds r)∧Ext [] w w':=by
 obtain ⟨w0,rfl⟩:∃ w0,w0=w:=⟨_,rfl⟩;have H:=Ctx.start w0 [];have hn16:=(Ch.1 ha).1;have hm64:=(EU.1 hd).1;obtain ⟨rs,hrs⟩:∃ rs,rs=acs.map Dl:=⟨_,rfl⟩;have hrl:rs.length=acs.length:=by rw [hrs,List.length_map]
 refine Au (fn:=Tryz.f183) Tryz.func183 U [.pointer (some ⟨bx,0,none⟩),.pointer (some ⟨bd,0,none⟩),.agg (Bz r q).toArray] U (by kernel_rfl) ?_;refine Ad (Bu U (Bz r q) (.agg _) U U H ?_);rintro b5 w - H;refine Ai U U (Ab (Aa ?_));have hx5:=H.ext;have h5:=H.get at0;obtain ⟨w5,rfl⟩:∃ z,z=w:=⟨_,rfl⟩;refine DE 2097024 (α:=NowZ) (fun z=>[(7,ptr z.b),(8,.slice z.aI z.nI z.cI),(9,.int .i64 z.code)]) (NowI w0 rs ds r.cmp b5 (Bl 55 (Bz r q))) U ?_ ?_
 ·skip
  refine MZ (.two [0,2,4,5] 1 (.two [] 3 (.two [] 6 (.one [7,8,9,10] 11 (.one [] 12 (.one [] 13 (.one [] 14 .stop)))) 11 (.one [] 6 (.one [7,8,9,10] 12 (.one [] 13 (.one [] 14 .stop))))) 11 (.one [] 3 (.one [] 6 (.one [7,8,9,10] 12 (.one [] 13 (.one [] 14 .stop)))))) 11 (.one [] 1 (.one [] 3 (.one [] 6 (.one [7,8,9,10] 12 (.one [] 13 (.one [] 14 .stop))))))) (fun z=>Ext [] w5 z) Bq (by kernel_rfl) (Ext.drew [] w5) ?_;refine HM U U U ?_;refine BQ U U (BQ U U (An U MG U (B0 U JR U (fun _ hx=>(by rw [Aj (hx.to h5 (by simp))]; rfl)) ?_)));refine AS ?_;have E:=Ext.drew [] w5;refine ⟨?_,?_⟩
  ·skip
   refine Al U PL (JO ha _ (A.ext0 (hx5.trans E))) U ?_;rintro v w ⟨hx12,a2,c2,rfl,R2⟩;rw [← hrs] at R2 ⊢;replace E:=E.trans hx12;refine Ab (BH (by exact E) ?_);refine HM U U U ?_;refine AS ?_;refine ⟨?_,?_⟩
   ·skip
    refine Al U Me (Ip hd _ (D.ext0 (hx5.trans E))) U ?_;rintro v w ⟨hx14,a3,c3,rfl,R3⟩;replace E:=E.trans hx14;replace R2:=R2.ext0 hx14;refine Ab (BH (by exact E) ?_);refine HM U U U ?_;refine AS ?_;refine ⟨?_,?_⟩
    ·skip
     refine Al U LF (GR a2 a3 _ c2 _ c3 rs ds r.cmp _ R2 U (by omega) R3 U (by omega)) U ?_;rintro v w hR;obtain ⟨hx17,N,aE,nE,cE,aI,nI,cI,code,rfl,hU⟩:=hR.uni;replace E:=E.trans hx17;refine Ab (BH (by exact E) ?_);refine BF U U ?_;refine D5 U U (Bs U U U (Bs U U U (Bs U U U (AS ?_))));have H:=Ctx.start w [];refine AZ U Mi H ?_;rintro b7 w - H;refine Ab (BH (by exact E.trans H.ext) ?_);refine BF U U ?_;refine AS (Bn U C7 U U U (by simp [Be]) H at0 U ?_);rintro w H;refine Ab (BH (by exact E.trans H.ext) ?_);refine BF U U ?_;refine AS (A1 U U (Ab (BH (by exact E.trans H.ext) ?_)));refine BF U U ?_;refine AS (Ae U U (Ab (BH (by exact E.trans H.ext) ?_)));refine DO ?_;refine Aa ?_;exact ⟨⟨b7,N,aE,nE,cE,aI,nI,cI,code⟩,rfl,⟨rfl,rfl,rfl,trivial⟩,hx5.trans (E.trans H.ext),(E.trans H.ext).to h5 (by simp),H.get at0,hU [] _ (by simp) H.ext⟩
    ·skip
     have H:=Ctx.start w [];refine AZ U Mi H ?_;rintro b7 w - H;have hn7:w5.heap.size≤b7:=Nat.le_trans E.size ((H.own _ (List.mem_cons_self ..)).elim (fun h=>by cases h) id);replace E:=E.trans H.ext;have hb7:=H.get at0;replace R2:=R2.ext0 H.ext;replace R3:=R3.ext0 H.ext;refine Ab (BH (by exact E) ?_);refine BF U U ?_;refine AS ?_;have hl7:=Bb hb7;refine Al U LF (GR a2 a3 _ c2 _ c3 rs ds r.cmp _ R2 U (by omega) R3 U (by omega)) U ?_;rintro v w hR;obtain ⟨hx17,N,aE,nE,cE,aI,nI,cI,code,rfl,hU⟩:=hR.uni;replace E:=E.trans hx17;replace hb7:=hx17.to hb7 (by simp);have H:=Ctx.start1 hb7;refine Ab (BH (by exact E) ?_);refine BF U U ?_;refine D5 U U (Bs U U U (Bs U U U (Bs U U U (AS (Bn U C7 U U U (by simp [Be]) H at0 U ?_)))));rintro w H;refine Ab (BH (by exact E.then H.ext (fun x hx => .inr (by rw [List.mem_singleton.1 hx]; exact hn7))) ?_);refine BF U U ?_
     refine AS (A1 U U (Ab (BH (by exact E.then H.ext (fun x hx => .inr (by rw [List.mem_singleton.1 hx]; exact hn7))) ?_)));refine BF U U ?_;refine AS (Ae U U (Ab (BH (by exact E.then H.ext (fun x hx => .inr (by rw [List.mem_singleton.1 hx]; exact hn7))) ?_)));refine DO ?_;refine Aa ?_;have E2:=E.then H.ext fun x hx => .inr (by rw [List.mem_singleton.1 hx]; exact hn7);exact ⟨⟨b7,N,aE,nE,cE,aI,nI,cI,code⟩,rfl,⟨rfl,rfl,rfl,trivial⟩,hx5.trans E2,E2.to h5 (by simp),H.get at0,hU [b7] _ (by simpa using hl7) H.ext⟩
   ·skip
    have H:=Ctx.start w [];refine AZ U Mi H ?_;rintro b7 w - H;have hn7:w5.heap.size≤b7:=Nat.le_trans E.size ((H.own _ (List.mem_cons_self ..)).elim (fun h=>by cases h) id);replace E:=E.trans H.ext;have hb7:=H.get at0;replace R2:=R2.ext0 H.ext;refine Ab (BH (by exact E) ?_);refine BF U U ?_;refine AS (Al U Me (Ip hd _ (D.ext0 (hx5.trans E))) U ?_);rintro v w ⟨hx14,a3,c3,rfl,R3⟩;replace E:=E.trans hx14;replace R2:=R2.ext0 hx14;replace hb7:=hx14.to hb7 (by simp);refine Ab (BH (by exact E) ?_);refine BF U U ?_;refine AS ?_;have hl7:=Bb hb7;refine Al U LF (GR a2 a3 _ c2 _ c3 rs ds r.cmp _ R2 U (by omega) R3 U (by omega)) U ?_;rintro v w hR;obtain ⟨hx17,N,aE,nE,cE,aI,nI,cI,code,rfl,hU⟩:=hR.uni;replace E:=E.trans hx17;replace hb7:=hx17.to hb7 (by simp);have H:=Ctx.start1 hb7;refine Ab (BH (by exact E) ?_);refine BF U U ?_
    refine D5 U U (Bs U U U (Bs U U U (Bs U U U (AS (Bn U C7 U U U (by simp [Be]) H at0 U ?_)))));rintro w H;refine Ab (BH (by exact E.then H.ext (fun x hx => .inr (by rw [List.mem_singleton.1 hx]; exact hn7))) ?_);refine BF U U ?_;refine AS (A1 U U (Ab (BH (by exact E.then H.ext (fun x hx => .inr (by rw [List.mem_singleton.1 hx]; exact hn7))) ?_)));refine BF U U ?_;refine AS (Ae U U (Ab (BH (by exact E.then H.ext (fun x hx => .inr (by rw [List.mem_singleton.1 hx]; exact hn7))) ?_)));refine DO ?_;refine Aa ?_;have E2:=E.then H.ext fun x hx => .inr (by rw [List.mem_singleton.1 hx]; exact hn7);exact ⟨⟨b7,N,aE,nE,cE,aI,nI,cI,code⟩,rfl,⟨rfl,rfl,rfl,trivial⟩,hx5.trans E2,E2.to h5 (by simp),H.get at0,hU [b7] _ (by simpa using hl7) H.ext⟩
  ·skip
   have H:=Ctx.start (World.drew w5) [];refine AZ U Mi H ?_;rintro b7 w - H;have hn7:w5.heap.size≤b7:=Nat.le_trans E.size ((H.own _ (List.mem_cons_self ..)).elim (fun h=>by cases h) id);replace E:=E.trans H.ext;have hb7:=H.get at0;refine Ab (BH (by exact E) ?_);refine BF U U ?_;refine AS (Al U PL (JO ha _ (A.ext0 (hx5.trans E))) U ?_);rintro v w ⟨hx12,a2,c2,rfl,R2⟩;rw [← hrs] at R2 ⊢;replace E:=E.trans hx12;replace hb7:=hx12.to hb7 (by simp);refine Ab (BH (by exact E) ?_);refine BF U U ?_;refine AS (Al U Me (Ip hd _ (D.ext0 (hx5.trans E))) U ?_);rintro v w ⟨hx14,a3,c3,rfl,R3⟩;replace E:=E.trans hx14;replace R2:=R2.ext0 hx14;replace hb7:=hx14.to hb7 (by simp);refine Ab (BH (by exact E) ?_);refine BF U U ?_;refine AS ?_;have hl7:=Bb hb7;refine Al U LF (GR a2 a3 _ c2 _ c3 rs ds r.cmp _ R2 U (by omega) R3 U (by omega)) U ?_;rintro v w hR;obtain ⟨hx17,N,aE,nE,cE,aI,nI,cI,code,rfl,hU⟩:=hR.uni
   replace E:=E.trans hx17;replace hb7:=hx17.to hb7 (by simp);have H:=Ctx.start1 hb7;refine Ab (BH (by exact E) ?_);refine BF U U ?_;refine D5 U U (Bs U U U (Bs U U U (Bs U U U (AS (Bn U C7 U U U (by simp [Be]) H at0 U ?_)))));rintro w H;refine Ab (BH (by exact E.then H.ext (fun x hx => .inr (by rw [List.mem_singleton.1 hx]; exact hn7))) ?_);refine BF U U ?_;refine AS (A1 U U (Ab (BH (by exact E.then H.ext (fun x hx => .inr (by rw [List.mem_singleton.1 hx]; exact hn7))) ?_)));refine BF U U ?_;refine AS (Ae U U (Ab (BH (by exact E.then H.ext (fun x hx => .inr (by rw [List.mem_singleton.1 hx]; exact hn7))) ?_)));refine DO ?_;refine Aa ?_;have E2:=E.then H.ext fun x hx => .inr (by rw [List.mem_singleton.1 hx]; exact hn7);exact ⟨⟨b7,N,aE,nE,cE,aI,nI,cI,code⟩,rfl,⟨rfl,rfl,rfl,trivial⟩,hx5.trans E2,E2.to h5 (by simp),H.get at0,hU [b7] _ (by simpa using hl7) H.ext⟩
 ·rintro ⟨b7,N,aE,nE,cE,aI,nI,cI,code⟩ j1 w ⟨hx0,h5',hb7,hU⟩; dsimp only at hb7 hU; dsimp only;obtain ⟨w1,rfl⟩:∃ z,z=w:=⟨_,rfl⟩;have H:=Ctx.start w1 [];have RA1:=RA.ext0 hx0
  rcases hU with ⟨hb,rfl,-⟩ | ⟨hb,rfl,rfl,rfl,RE,aI',cI',hI,RI⟩
  ·skip
   refine Ad (Af U U (Cz U U U (A7 U U (AV 23 U ?_ ?_))))
   ·intro g1;replace g1:=AM g1;exact absurd g1 (by decide)
   ·intro g1;replace g1:=AN g1;refine Ag U (Ag U (Ag U (Ag U (Ag U (Ag U (AJ U U (.bool _) U (A7 U U (Ag U (Ag U ?_)))))))));refine Ag U (Ag U (Ag U (Ag U (AJ U U (.bool _) U (A7 U U (Ag U (Ag U (Ag U (Ag U ?_)))))))));refine AJ U U (.bool _) U (Ai U U (Ab (Aa (A5 (AA (v:=(.bool _)) U U U ?_)))));exact ⟨congrArg Value.bool (by unfold M5; rw [← hrs,hb]; simp_all),hx0⟩
  ·skip
   cases hI;have hel:(BA rs (opn ds) r.cmp).length≤1000000:=by have:=HI ds; rw [GJ]; split <;> omega
   have hil:((opn ds).map Du.id).length≤1000000:=by have:=HI ds; rw [List.length_map]; omega
   refine Ad (Af U U (Cz U U U (A7 U U (AV 23 U ?_ ?_))))
   ·intro h1;replace h1:=AM h1;refine Ah U Ex U (Bd U BS U ((by rw [Aj (H.ext.to hb7 (by simp))]; rfl)) ?_);refine Ah U EF U (Ah U Ex U (Bd U BS U ((by rw [Aj (H.ext.to h5' (by simp))]; rfl)) ?_));refine Cz U U U (AG U U (.bool _) U (A7 U U (AV 31 U ?_ ?_)))
    ·intro h2;replace h2:=AM h2;refine Ah U CN U (Bd U Ei U ((by rw [Aj (H.ext.to hb7 (by simp))]; rfl)) ?_);refine Ah U EF U (Ah U CN U (Bd U Ei U ((by rw [Aj (H.ext.to h5' (by simp))]; rfl)) ?_));refine Al U Aer (Agx aE q.aE _ cE _ q.cE (BA rs (opn ds) r.cmp) r.es _ (RE.ext0 H.ext) U hel (RA1.E.ext0 H.ext) U he) U ?_;rintro v w ⟨rfl,hx37⟩;replace H:=H.call hx37;refine AG U U (.bool _) U (A7 U U (AV 39 U ?_ ?_))
     ·intro h3;refine A4 U U (Ah U Ey U (Bd U G5 U ((by rw [Aj (H.ext.to h5' (by simp))]; rfl)) ?_));refine Al U Aes (Agy aI q.aI _ cI _ q.cI ((opn ds).map Du.id) r.ids _ (RI.ext0 H.ext) U hil (RA1.I.ext0 H.ext) U hi) U ?_;rintro v w ⟨rfl,hx43⟩;replace H:=H.call hx43;refine AG U U (.bool _) U (Ai U U (Ab (Aa (A5 (AA (v:=(.bool _)) U U U ?_)))));exact ⟨congrArg Value.bool (by unfold M5; rw [← hrs,hb,← hrl]; simp_all),hx0.trans H.ext⟩
     ·intro h4;refine Ag U (Ag U (Ag U (Ag U (AJ U U (.bool _) U (Ai U U (Ab (Aa (A5 (AA (v:=(.bool _)) U U U ?_)))))))));exact ⟨congrArg Value.bool (by unfold M5; rw [← hrs,hb,← hrl]; simp_all),hx0.trans H.ext⟩
    ·intro h5;replace h5:=AN h5;refine Ag U (Ag U (Ag U (Ag U (Ag U (Ag U (AJ U U (.bool _) U (A7 U U (Ag U (Ag U ?_)))))))));refine Ag U (Ag U (AJ U U (.bool _) U (Ai U U (Ab (Aa (A5 (AA (v:=(.bool _)) U U U ?_)))))));exact ⟨congrArg Value.bool (by unfold M5; rw [← hrs,hb,← hrl]; simp_all),hx0.trans H.ext⟩
   ·intro h6;replace h6:=AN h6;refine Ag U (Ag U (Ag U (Ag U (Ag U (Ag U (AJ U U (.bool _) U (A7 U U (Ag U (Ag U ?_)))))))));refine Ag U (Ag U (Ag U (Ag U (AJ U U (.bool _) U (A7 U U (Ag U (Ag U (Ag U (Ag U ?_)))))))));refine AJ U U (.bool _) U (Ai U U (Ab (Aa (A5 (AA (v:=(.bool _)) U U U ?_)))));exact ⟨congrArg Value.bool (by unfold M5; rw [← hrs,hb,← hrl]; simp_all),hx0.trans H.ext⟩
end Go.Proofs.YtdagmpmdcgedcaaGreat

/- A round's pays, one by one: the closure. -/
namespace Go.Proofs.YtdagmpmdcgedcaaGreat
open Go.GV
attribute [local irreducible] AB W Wq Wt

set_option maxRecDepth 20000 in
set_option maxHeartbeats 4000000 in
theorem Abk {c4 c7 by' bd b n:Nat} {nx:Int} {o:Obj} {ds:List Du} {d:Du} {x:Int} {f f':Nat→Int} (w:World)
  (h4:w.heap[c4]? = some (Bl 101 [ptr bd])) (h7:w.heap[c7]? = some (Bl 35 [.slice (some ⟨by',0,none⟩) n n])) (hd:w.heap[bd]? = some (Bl 165 (DU b nx))) (H0:Ctx w [by',b] w [(by',Bl 2 (BN f n)),(b,o)]) (hM:CL .u64 (dm ds) o)
  (n4:c4∉[by',b]) (n7:c7∉[by',b]) (nd:bd∉[by',b]) (hf:CD ds d.id=some d) (hh:d.held=false) (hx:0≤x∧x≤d.am) (ham:TS ds) (hfr:0≤d.fr∧d.fr<n) (hto:0≤d.to∧d.to<n) (hn:n≤1000000)
  (hfb:∀ k,-1152921504606846976≤f k∧f k≤1152921504606846976) (hf':∀ k,f' k=f k+(one (d.to.toNat=k) - one (d.fr.toNat=k))*x) :
  Ret Tryz.prog 184 #[.int .u64 d.id,.int .i64 x,ptr c4,ptr c7] w fun v w'=>v = .int .i64 0∧∃ o',CL .u64 (dm (GI ds d.id x)) o'∧Ctx w [by',b] w' [(by',Bl 2 (BN f' n)),(b,o')]:=by
 obtain ⟨w0,rfl⟩:∃ w0,w0=w:=⟨_,rfl⟩;have H:=H0;have hamd:=ham d (Hi hf).1;obtain ⟨fn,hfn⟩:∃ fn:Nat,d.fr=fn:=⟨d.fr.toNat,by omega⟩;obtain ⟨tn,htn⟩:∃ tn:Nat,d.to=tn:=⟨d.to.toNat,by omega⟩;obtain ⟨f1,hf1⟩:∃ f1,f1=upd f fn (f fn - x):=⟨_,rfl⟩;have hof:f1 fn=f fn - x:=by rw [hf1,Dc]
 have hon:∀ q,q≠fn→f1 q=f q:=fun q hq=>by rw [hf1,Ee hq]
 have hst:∀ q,f' q=upd f1 tn (f1 tn+x) q:=fun q=>by
  rw [hf',hfn,htn,Int.toNat_natCast,Int.toNat_natCast]
  by_cases h1:q=tn
  ·subst h1;rw [Dc,FM rfl]
   by_cases h2:fn=q
   ·subst h2; rw [FM rfl,hof]; omega
   ·rw [Fj h2,hon q (Ne.symm h2)]; omega
  ·rw [Ee h1,Fj (Ne.symm h1)]
   by_cases h2:fn=q
   ·subst h2; rw [FM rfl,hof]; omega
   ·rw [Fj h2,hon q (Ne.symm h2)]; omega
 have hb1:=hfb fn;have hb2:=hfb tn
 have hot : -1157425104234217472≤f1 tn∧f1 tn≤1157425104234217472:=by
  by_cases h:tn=fn
  ·rw [h,hof]; omega
  ·rw [hon tn h]; omega
 have hbb:=H.ne at0 at1 (by decide);refine Au (fn:=Tryz.f184) Tryz.func184 U [.int .u64 d.id,.int .i64 x,.pointer (some ⟨c4,0,none⟩),.pointer (some ⟨c7,0,none⟩)] U (by kernel_rfl) ?_;refine Ad (Ae U U (Ab (Aa (Ad (Bd U FA U ((H.old (Aj h4 _) n4)) ?_)))));refine Af U U (Al U Tj (Qt _ (H.ext.to hd nd) (H.get at1) hM) U ?_);rintro v w ⟨rfl,hx12⟩;replace H:=H.call hx12;rw [show Lo ds d.id=d by unfold Lo; rw [hf]; rfl];refine C0 U U (AO U U U (AO U U U (AZ U Et H ?_)));rintro b7 w - H;refine Bn U Cj U U U (by exact CY _) H at0 U ?_;rintro w H;refine Ai U U (Ab (Aa (Ad (Bd U BL U ((H.old (Aj h7 _) n7)) ?_))));refine Ah U I6 U (AE U BS U H at0 U (Bh U AR Bx U U (by omega) (by omega) ?_));refine PA fn _ U Bw U H at1 (by rw [hfn]; simp) (by omega) U ?_;refine Af U U (Bp U U U (by omega) (by omega) ?_);refine Bh U AR Bx U U (by omega) (by omega) ?_
 refine BT fn (fun q => .int .i64 (f1 q)) (.int _ _) U Bx U U U H at1 (by rw [hfn]; simp) (by omega) (by rw [hof]) (fun q _ hq=>by rw [hon q hq]) ?_;rintro w H;refine Ab (Aa (Ad (Bd U BL U ((H.old (Aj h7 _) n7)) ?_)));refine Ah U I8 U (AE U BS U H at0 U (Bh U AR Bx U U (by omega) (by omega) ?_));refine PA tn _ U Bw U H at1 (by rw [htn]; simp) (by omega) U ?_;refine Af U U (Ay U U U (by omega) (by omega) ?_);refine Bh U AR Bx U U (by omega) (by omega) ?_;refine BT tn (fun q => .int .i64 (f' q)) (.int _ _) U Bx U U U H at1 (by rw [htn]; simp) (by omega) (by rw [hst,Dc]) (fun q _ hq=>by rw [hst,Ee hq]) ?_;rintro w H;refine Ab (Aa (Ad (Bd U FA U ((H.old (Aj h4 _) n4)) ?_)));refine Af U U (Af U U ?_);obtain ⟨hc0,hS⟩:=Wv (p:=(d,x)) ⟨hf,hh,hx.1,hx.2⟩;dsimp only at hc0 hS;have Hp:=H.perm (show List.Perm _ [_,_,_] from (List.Perm.swap _ _ _).trans ((List.Perm.swap _ _ _).cons _))
 refine Al U Aea (Aba (k:=d.id) (x:=x) _ (H.ext.to hd nd) (H.get at2) hM (by intro h; exact nd (by rw [h]; simp)) ham) U ?_;rintro v w ⟨rfl,o',hM',H2⟩;rw [hc0];rw [hS] at hM';refine Ae U U (Ab (Aa (A5 (AA (v:=(.int _ _)) U U U ?_))));have HB:=Ctx.back (L1:=[_]) (L2:=[_,_]) (Hp.perm (List.Perm.swap _ _ _)) H2;exact ⟨rfl,o',hM',(HB.perm (List.Perm.swap _ _ _)).left (L:=[_,_]) (L':=[_])⟩
end Go.Proofs.YtdagmpmdcgedcaaGreat

/- A round, applied. -/
namespace Go.Proofs.YtdagmpmdcgedcaaGreat
open Go.GV
attribute [local irreducible] AB W Wq Wt

theorem Acw {α:Type} (A B C p y q1 q2:α) (E:List α):(A::B::C::(E++[p,y,q1,q2])).Perm (y::C::A::B::p::q1::q2::E):=by
 have h1:(A::B::C::(E++[p,y,q1,q2])).Perm (A::B::C::p::y::q1::q2::E):=((List.perm_append_comm (l₁:=E) (l₂:=[p,y,q1,q2])).cons C |>.cons B).cons A;have h2:(A::B::C::p::y::q1::q2::E).Perm (y::A::B::C::p::q1::q2::E):=List.perm_middle (l₁:=[A,B,C,p]);have h3:(A::B::C::p::q1::q2::E).Perm (C::A::B::p::q1::q2::E):=List.perm_middle (l₁:=[A,B]);exact h1.trans (h2.trans (h3.cons y))
theorem Ctx.turnEnt {w0 w w':World} {S:List Nat} {L:List (Nat × Obj)} {a:Option Addr} {t:TypeId} {full full':List Value} (H:Ctx w0 S w (L++ent a t full)) (he:Ext ((ent a t full).map (·.1)) w w') (hb:∀ x∈ent a t full',w'.heap[x.1]? = some x.2):Ctx w0 S w' (L++ent a t full'):=by
 have H':Ctx w ((ent a t full).map (·.1)) w' (ent a t full'):=⟨he,hb,F9,fun x hx=>by
  cases a with
  | none=>simp [ent] at hx
  | some p =>
   simp only [ent,List.mem_singleton] at hx;subst hx
   exact .inl (by simp [ent])⟩
 exact (Ctx.back (Ctx.comm H) H').comm
theorem CU {w:World} {b:Nat} {t:TypeId} {l:List Value} (h:w.heap[b]? = some (Bl t l)) (o:Nat) (l':List Value) (hl:(l.drop o).take l'.length=l'):∀ j v,l'[j]? = some v→w.cell? ⟨b,o+j,none⟩=some v:=fun j v hv=>by
 rw [Aj h];have hj:=Cu hv;rw [← hl,List.getElem?_take,if_pos hj,List.getElem?_drop] at hv;exact hv
theorem ROff.or {q:RSl} {r:Rnd} {S T:Nat→Prop} (h:ROff q r S) (k:ROff q r T):ROff q r (fun x=>S x∨T x) :=
 ⟨fun g x=>x.elim (h.I g) (k.I g),fun g x=>x.elim (h.E g) (k.E g),fun g x=>x.elim (h.F g) (k.F g),fun g x=>x.elim (h.P g) (k.P g)⟩
/-- What a right round says. -/
structure ApF (acs:List Ac) (ds:List Du) (r:Rnd):Prop where
 B:Bright (acs.map Dl) ds
 N:r.N=(((acs.map Dl).length+1:Nat):Int)
 es:r.es=BA (acs.map Dl) (opn ds) r.cmp
 ids:r.ids=(opn ds).map Du.id
 pay:PayIn (opn ds) (r.fl.take (opn ds).length)
 len:r.fl.length=r.es.length
 by':∀ (k:Nat) (a:Ac),acs[k]? = some a→(r.cmp=true→byK (acs.map Dl) (opn ds) r.cmp r.fl k=0) ∧ -(Dl a)≤byK (acs.map Dl) (opn ds) r.cmp r.fl k∧byK (acs.map Dl) (opn ds) r.cmp r.fl k≤4503599627370496
 sum:B5 (byK (acs.map Dl) (opn ds) r.cmp r.fl) acs.length=0
 ok:Kc ds ((opn ds).zip (r.fl.take (opn ds).length))
 all:J4 ds ((opn ds).zip (r.fl.take (opn ds).length))=DS ds (r.fl.take (opn ds).length)
theorem YR {acs:List Ac} {ds:List Du} {nx:Int} {r:Rnd} (ha:ED acs=0) (hd:ofC ds nx=0) (hck:Fc r.N r.es r.fl r.pot=true) (hnow:M5 acs ds r=true):ApF acs ds r:=by
 have hm64:=(EU.1 hd).1;unfold M5 at hnow;simp only [Bool.and_eq_true,decide_eq_true_eq] at hnow;obtain ⟨h1,h2,h3,h4⟩:=hnow;have hB:=(Hm (by omega)).1 h1;have hN:r.N=(((acs.map Dl).length+1:Nat):Int):=by rw [List.length_map]; exact h2.symm
 have hf:=(F5.1 hck).1;rw [hN,← h3] at hf;obtain ⟨f1,f2,f3,f4⟩:=Sc (fun x hx=>(C9.1 (hB.may x hx)).1) hB.open'.due hf;have hp:=Abg f1 [] (by rw [List.nil_append]; exact Lp hd);rw [List.nil_append] at hp;rw [List.length_map] at f4;exact ⟨hB,hN,h3.symm,h4.symm,f1,by rw [f2,h3],fun k a hk=>f3 k _ (by rw [List.getElem?_map,hk]; rfl),f4,hp.1,hp.2⟩
/-- What applying a round answers, and leaves. -/
def E0 (acs:List Ac) (ds:List Du) (r:Rnd):Int:=if Fc r.N r.es r.fl r.pot=false then 1 else if M5 acs ds r=false then 3 else 0
def Ft (acs:List Ac) (ds:List Du) (r:Rnd):List Ac:=if E0 acs ds r=0 then shA acs (tab (byK (acs.map Dl) (opn ds) r.cmp r.fl) acs.length) else acs
def Ga (acs:List Ac) (ds:List Du) (r:Rnd):List Du:=if E0 acs ds r=0 then DS ds (r.fl.take (opn ds).length) else ds
theorem Gb {acs:List Ac} {ds:List Du} {nx:Int} {r:Rnd} (ha:ED acs=0) (hd:ofC ds nx=0) (h:E0 acs ds r=0):ApF acs ds r:=by
 unfold E0 at h
 cases h1:Fc r.N r.es r.fl r.pot with
 | false=>rw [if_pos h1] at h; simp at h
 | true =>
  rw [if_neg (by rw [h1]; decide)] at h
  cases h2:M5 acs ds r with
  | false=>rw [if_pos h2] at h; simp at h
  | true=>exact YR ha hd h1 h2
theorem JP {acs:List Ac} {ds:List Du} {nx:Int} {r:Rnd} (ha:ED acs=0) (hd:ofC ds nx=0):ED (Ft acs ds r)=0∧ofC (Ga acs ds r) nx=0∧(Ft acs ds r).length=acs.length:=by
 unfold Ft Ga
 by_cases h:E0 acs ds r=0
 ·rw [if_pos h,if_pos h];have F:=Gb ha hd h;exact ⟨(J5 ha (fun k a hk=>(F.by' k a hk).2) F.sum).2,Abf F.pay hd,Qv⟩
 ·rw [if_neg h,if_neg h];exact ⟨ha,hd,rfl⟩
abbrev LX (bx:Nat) (a:Option Addr) (n c:Nat) (full:List Value) (bd b:Nat) (nx:Int) (o:Obj):List (Nat × Obj):=(bx,Bl 162 [.slice a n c])::(bd,Bl 165 (DU b nx))::(b,o)::ent a 43 full
structure AP7 where
 i:Nat
 o:Obj
set_option maxRecDepth 20000 in
set_option maxHeartbeats 8000000 in
theorem YS {bx bd b c:Nat} {a:Option Addr} {full:List Value} {o:Obj} {acs:List Ac} {ds:List Du} {nx:Int} {r:Rnd} {q:RSl} (ha:ED acs=0) (hd:ofC ds nx=0) (w:World)
  (H0:Ctx w ((LX bx a acs.length c full bd b nx o).map (·.1)) w (LX bx a acs.length c full bd b nx o)) (O:OS a acs.length c 2 full (acs.flatMap CP)) (hM:CL .u64 (dm ds) o) (RA:RAt w r q) (hoff:ROff q r (·∈(LX bx a acs.length c full bd b nx o).map (·.1)))
  (hN:I64 r.N) (he:r.es.length≤1000000) (hi:r.ids.length≤1000000) (hf:r.fl.length≤1000000) (hp:r.pot.length≤1000000) :
  Ret Tryz.prog 113 #[ptr bx,ptr bd,.agg (Bz r q).toArray] w fun v w'=>v = .int .i64 (E0 acs ds r)∧∃ full' o',OS a acs.length c 2 full' ((Ft acs ds r).flatMap CP)∧CL .u64 (dm (Ga acs ds r)) o' ∧
   Ctx w ((LX bx a acs.length c full bd b nx o).map (·.1)) w' (LX bx a acs.length c full' bd b nx o'):=by
 obtain ⟨w0,rfl⟩:∃ w0,w0=w:=⟨_,rfl⟩;have H:=Ctx.start w0 [];have hn16:=(Ch.1 ha).1;have hm64:=(EU.1 hd).1;have hbx:=H0.get at0;have hbd:=H0.get at1;have hb:=H0.get at2;have RAc:Rd w0 a 2 CP acs:=OS.rd O (fun x hx=>H0.blk x (List.mem_cons_of_mem _ (List.mem_cons_of_mem _ (List.mem_cons_of_mem _ hx)))) (fun _ _=>rfl) (by decide);have A:AcAt w0 162 bx acs:=⟨a,c,hbx,RAc⟩;have D:DuAt w0 bd ds:=⟨b,nx,o,hbd,hb,hM⟩;obtain ⟨ck,hck⟩:∃ ck,ck=Fc r.N r.es r.fl r.pot:=⟨_,rfl⟩;obtain ⟨nw,hnw⟩:∃ nw,nw=M5 acs ds r:=⟨_,rfl⟩;refine Au (fn:=Tryz.f113) Tryz.func113 U [.pointer (some ⟨bx,0,none⟩),.pointer (some ⟨bd,0,none⟩),.agg (Bz r q).toArray] U (by kernel_rfl) ?_;refine Ad (Bu U [ptr bd] (.pointer _) U U H ?_);rintro b4 w - H;refine Bu U (Bz r q) (.agg _) U U H ?_;rintro b5 w - H
 refine Ae U U (Ab (Aa (Aw (Az (Ad (Cw (α:=Unit) 520192 (fun _=>[(12,.bool (false))]) (fun _ w'=>Ctx w0 [] w' [(b5,Bl 55 (Bz r q)),(b4,Bl 101 [ptr bd])]) U ?_ ?_))))))
 ·refine A3 U U (Cq U Mg U ?_);refine A7 U U (AV 15 U ?_ ?_)
  ·intro h1;refine Ag U (Ag U (AG U U (.bool _) U (Ai U U (Ab ?_))));exact ⟨rfl,(),rfl,⟨congrArg Value.bool (by simp_all),trivial⟩,H⟩
  ·intro h2;refine AE U FA U H at1 U (Cq U I9 U ?_);refine AJ U U (.bool _) U (Ai U U (Ab ?_));exact ⟨rfl,(),rfl,⟨congrArg Value.bool (by rfl),trivial⟩,H⟩
 rintro - j12 w H;refine G9 U (Ad (Ah U EF U (Cn _ U CV C7 U U ((CU (b:=b5) (t:=55) (l:=Bz r q) (H.get at0) 4 [.int .i64 r.N,.slice q.aE r.es.length q.cE] U)) ?_)));refine Ah U D6 U (Cn _ U Ra Mf U U ((CU (b:=b5) (t:=55) (l:=Bz r q) (H.get at0) 6 [.slice q.aF r.fl.length q.cF,.slice q.aP r.pot.length q.cP] U)) ?_);refine Al U Xu (Ro r.N q.aE q.aF q.aP _ q.cE _ q.cF _ q.cP r.es r.fl r.pot _ (RA.E.ext0 H.ext) U hN (RA.F.ext0 H.ext) U (by omega) (RA.P.ext0 H.ext) U (by omega)) U ?_;rintro v w ⟨rfl,hx24⟩;rw [← hck];replace H:=H.call hx24;refine BG U U (Ai U U (Ab (Aa (Aq _ U ?_ ?_))))
 ·intro h1;replace h1:=BD h1;refine Ad (Ae U U (Ab (Aa (A5 (A9 (Ao (AA (v:=(.int _ _)) U U U ?_)))))));have h1':ck=false:=by simpa using h1
  have hC:E0 acs ds r=1:=by unfold E0; rw [← hck,if_pos h1']
  unfold Ft Ga;rw [hC,if_neg (by decide),if_neg (by decide)];exact ⟨rfl,full,o,O,hM,H0.call H.ext⟩
 ·intro h1;replace h1:=BE h1;have h1':ck=true:=by simpa using h1
  refine Ad (A3 U U (AE U FA U H at1 U (Ce U G6 DB U H at0 U (Al U Ad8 (Ag1 ha hd _ (A.ext0 H.ext) (D.ext0 H.ext) (RA.ext0 H.ext) he hi) U ?_))));rintro v w ⟨rfl,hx30⟩;rw [← hnw];replace H:=H.call hx30;refine BG U U (Ai U U (Ab (Aa (Aq _ U ?_ ?_))))
  ·intro h2;replace h2:=BD h2;refine Ad (Ae U U (Ab (Aa (A5 (A9 (Ao (AA (v:=(.int _ _)) U U U ?_)))))));have h2':nw=false:=by simpa using h2
   have hC:E0 acs ds r=3:=by unfold E0; rw [← hck,h1',if_neg (by decide),← hnw,if_pos h2']
   unfold Ft Ga;rw [hC,if_neg (by decide),if_neg (by decide)];exact ⟨rfl,full,o,O,hM,H0.call H.ext⟩
  ·intro h2;replace h2:=BE h2;have h2':nw=true:=by simpa using h2
   have hC:E0 acs ds r=0:=by unfold E0; rw [← hck,h1',if_neg (by decide),← hnw,h2',if_neg (by decide)]
   have F:=Gb ha hd hC;unfold Ft Ga;rw [hC,if_pos rfl,if_pos rfl];have hSh:=(J5 ha (fun k a hk=>(F.by' k a hk).2) F.sum).1;obtain ⟨f,hf0⟩:∃ f:Nat→Nat→Int,f=fun i=>DQ (grE (((acs.map Dl).length+1:Nat):Int) (BA (acs.map Dl) (opn ds) r.cmp)) (flE r.fl) i:=⟨_,rfl⟩;have hfe:byK (acs.map Dl) (opn ds) r.cmp r.fl=f (opn ds).length:=by rw [hf0]; rfl
   rw [hfe] at hSh ⊢;have hf00:f 0=fun _=>0:=by rw [hf0]; rfl
   obtain ⟨m,hm⟩:∃ m,m=(opn ds).length:=⟨_,rfl⟩;have hml:m≤64:=by have:=HI ds; omega
   have hmf:m≤r.fl.length:=by rw [F.len,F.es,GJ]; omega
   have hltm:(r.fl.take m).length=m:=by rw [List.length_take]; omega
   have hidl:r.ids.length=m:=by rw [F.ids,List.length_map,hm]
   have hcut:Qr (r.ids.length:Int) r.fl.length=m:=by unfold Qr; rw [hidl]; omega
   rw [← hm] at hSh ⊢;refine Av (A6 (Aa (Ad (A3 U U (Al U Acf (RN (bd:=bx) a acs.length c acs _ (H.ext.to hbx (by simp)) (RAc.ext0 H.ext) U (by omega)) U ?_)))));rintro v w F33;obtain ⟨a33,n33,c33,f33,rfl,O33,-⟩:=F33.ex;obtain rfl:=O33.numN (fun _ _=>rfl) (by decide);replace H:=H.call F33.ext;refine Bf U Es U (GD U AR Bx Kl Eb U U (by omega) (by omega) (by omega) (by omega) H ?_);rintro b35 w - H;rw [Int.toNat_natCast,EB] at H;rw [Int.toNat_natCast];refine AZ U Acr H ?_;rintro b7 w - H;refine Cg (.slice _ _ _) U Acn U U U H at0 (by decide) ?_;rintro w H;refine Ab (Aa (Ad (BZ U [.pointer _,.pointer _] U (CK U (.func _ _ _) U ?_))));refine Ab (Aa (Aw (Ad (Ah U EF U (Cn _ U CV C7 U U ((CU (b:=b5) (t:=55) (l:=Bz r q) (H.get at2) 4 [.int .i64 r.N,.slice q.aE r.es.length q.cE] U)) ?_)))))
   refine Ah U D6 U (Ah U Fm U (AE U BL U H at2 U (Ah U Ey U (AE U G5 U H at2 U (Bf U Br U (Al U Xp (UV r.N q.aE q.aF r.es.length q.cE _ q.cF (r.ids.length:Int) r.fl _ (RA.F.ext0 H.ext) U RA.fc hf) U ?_))))));rintro v w F45;rw [hcut] at F45;obtain ⟨a45,n45,c45,f45,rfl,O45,hb45⟩:=F45.ex;have hn45:=O45.num;rw [List.length_take,Nat.min_eq_left hmf] at hn45;rw [hn45] at O45 ⊢;refine Bf U AR U (Af U U (Ab (Aa (Az ?_))));have HFp:=(Ctx.callEnt H0 H.ext (fun x hx=>⟨H.blk x hx,(H.own x hx).elim (fun h=>by cases h) id⟩) H.nd).perm (Acw _ _ _ _ _ _ _ _);have HF:=HFp.call F45.ext;have E9:=H.ext.trans F45.ext
   obtain ⟨S9,hS9⟩:∃ S9,S9=((b35,Bl 2 (List.map (fun _=>Value.int .i64 0) (List.range acs.length)))::(b,o)::(bx,Bl 162 [.slice a acs.length c])::(bd,Bl 165 (DU b nx))::(b7,Bl 35 [.slice (some ⟨b35,0,none⟩) acs.length acs.length])::(b5,Bl 55 (Bz r q))::(b4,Bl 101 [ptr bd])::ent a 43 full).map (·.1):=⟨_,rfl⟩;have RPY:Rd w a45 1 I1 (r.fl.take m):=O45.rd1 fun x hx=>(hb45 x hx).1
   have hPY:r.fl.take m≠[]→(adr a45).block∉S9:=fun hne hm9=>by
    obtain ⟨z,rfl⟩:=O45.form (by have:=List.length_pos_iff.2 hne; rw [List.length_take] at this; omega);have h7:=(hb45 (z,Bl 2 f45) (List.mem_singleton.2 rfl)).2;rw [hS9] at hm9;obtain ⟨y,hy,hy2⟩:=List.mem_map.1 hm9;have h8:=Bb (HFp.blk y hy);dsimp only at h7;have h9:y.1=z:=hy2;omega
   have RA9:=RA.ext0 E9
   have hoff9:ROff q r (·∈S9):=(hoff.or RA.lt).mono fun x hx=>by
    rw [hS9] at hx;obtain ⟨y,hy,rfl⟩:=List.mem_map.1 hx;exact HFp.own y hy
   clear HFp;obtain ⟨w9,rfl⟩:∃ z,z=w:=⟨_,rfl⟩;replace HF:Ctx w0 ((LX bx a acs.length c full bd b nx o).map (·.1)) w9 (((b35,Bl 2 (List.map (fun _=>Value.int .i64 0) (List.range acs.length)))::(b,o)::(bx,Bl 162 [.slice a acs.length c])::(bd,Bl 165 (DU b nx))::(b7,Bl 35 [.slice (some ⟨b35,0,none⟩) acs.length acs.length])::(b5,Bl 55 (Bz r q))::(b4,Bl 101 [ptr bd])::ent a 43 full)++[]):=by rw [List.append_nil]; exact HF
   have H:Ctx w9 S9 w9 ((b35,Bl 2 (List.map (fun _=>Value.int .i64 0) (List.range acs.length)))::(b,o)::(bx,Bl 162 [.slice a acs.length c])::(bd,Bl 165 (DU b nx))::(b7,Bl 35 [.slice (some ⟨b35,0,none⟩) acs.length acs.length])::(b5,Bl 55 (Bz r q))::(b4,Bl 101 [ptr bd])::ent a 43 full):=by rw [hS9]; exact Ctx.lend HF
   refine Bv 18446603336221199936 (α:=AP7) (fun t=>[(47,.int .i64 (t.i:Int))]) (fun t w'=>t.i≤m∧CL .u64 (dm (J4 ds (((opn ds).zip (r.fl.take m)).take t.i))) t.o∧Ctx w9 S9 w' ((b35,Bl 2 (BN (f t.i) acs.length))::(b,t.o)::(bx,Bl 162 [.slice a acs.length c])::(bd,Bl 165 (DU b nx))::(b7,Bl 35 [.slice (some ⟨b35,0,none⟩) acs.length acs.length])::(b5,Bl 55 (Bz r q))::(b4,Bl 101 [ptr bd])::ent a 43 full)) (fun t=>m - t.i) ⟨0,o⟩ U ?_ ?_ ?_
   ·exact ⟨rfl,trivial⟩
   ·refine ⟨Nat.zero_le _,hM,?_⟩;dsimp only;rw [hf00];exact H
   ·clear H;rintro ⟨i,o1⟩ jj w ⟨hi7,hM1,H⟩; dsimp only at hi7 hM1 H; dsimp only;refine Ad (Bj U U U (Ab (Aa (Aw (Aq _ U ?_ ?_)))))
    ·intro h3;replace h3:=AM h3;obtain ⟨d,hdi⟩:=AD (l:=opn ds) (i:=i) (by omega);obtain ⟨x,hxi⟩:=AD (l:=r.fl) (i:=i) (by omega);have hxt:(r.fl.take m)[i]? = some x:=by rw [List.getElem?_take,if_pos (by omega)]; exact hxi
     have hid:r.ids[i]? = some d.id:=by rw [F.ids,List.getElem?_map,hdi]; rfl
     have hps:((opn ds).zip (r.fl.take m))[i]? = some (d,x):=by rw [List.getElem?_zip_eq_some]; exact ⟨hdi,hxt⟩
     have hok:=F.ok;rw [← hm] at hok;obtain ⟨⟨hfd,hheld,hx0,hx1⟩,hnext⟩:=RY hok hps;dsimp only at hfd hheld hx0 hx1 hnext;have ham7:=(UW (of_am hd) hok i).1;have hDI:=F.B.open'.due d (List.mem_of_getElem? hdi);rw [List.length_map] at hDI;have hdm:=D7 hDI.1
     have hfb:∀ k,-1152921504606846976≤f i k∧f i k≤1152921504606846976:=fun k=>by
      have:=Ju (g:=grE (((acs.map Dl).length+1:Nat):Int) (BA (acs.map Dl) (opn ds) r.cmp)) (x:=flE r.fl) (c:=4503599627370496) k (k:=i) fun j hj=>by
       obtain ⟨d',hd'⟩:=AD (l:=opn ds) (i:=j) (by omega);obtain ⟨x',hx'⟩:=AD (l:=r.fl) (i:=j) (by omega);have h1:=F.pay.2 j d' x' hd' (by rw [List.getElem?_take,if_pos (by omega)]; exact hx');have h2:=(D7 (F.B.open'.due d' (List.mem_of_getElem? hd')).1).2.2.2.1;show 0≤r.fl.getD j 0∧r.fl.getD j 0≤_;rw [Bm hx'];omega
      rw [hf0];dsimp only;omega
     have hfs:∀ k,f (i+1) k=f i k+(one (d.to.toNat=k) - one (d.fr.toNat=k))*x:=fun k=>by
      rw [hf0];dsimp only;rw [FY,RZ (IL hdi),Sa (IL hdi),show flE r.fl i=x from Bm hxi]; rfl
     refine Av (Aa (Aw (Az (Ad (Af U U (Bo RPY U AR Bx U U (by omega) (by omega) (by omega) ?_))))));refine Bd U Bw U (((RPY.ext' H.ext hPY).fld hxt U (j:=0) U)) ?_;refine Ae U U (Ae U U (Ab (Aa (Ad (De U (.func _ _ _) U ?_)))));refine Ah U Ey U (AE U G5 U H at5 U (Af U U (Bo RA9.I U Br Bi U U (by omega) (by omega) (by rfl) ?_)));refine Bd U B2 U (((RA9.I.ext' H.ext hoff9.I).fld hid U (j:=0) U)) ?_
     refine Af U U (F8 U U Ad9 (Abk (f:=f i) (f':=f (i+1)) (x:=x) (d:=d) _ (H.get at6) (H.get at4) (H.get at3) (Ctx.lend (L1:=[_,_]) (L2:=_) H) hM1 (fun h=>by simp only [List.mem_cons,List.not_mem_nil,or_false] at h; exact h.elim (H.ne at6 at0 (by decide)) (H.ne at6 at1 (by decide))) (fun h=>by simp only [List.mem_cons,List.not_mem_nil,or_false] at h; exact h.elim (H.ne at4 at0 (by decide)) (H.ne at4 at1 (by decide))) (fun h=>by simp only [List.mem_cons,List.not_mem_nil,or_false] at h; exact h.elim (H.ne at3 at0 (by decide)) (H.ne at3 at1 (by decide))) hfd hheld ⟨hx0,hx1⟩ ham7 ⟨hdm.1.1,hDI.2.1⟩ ⟨hdm.2.1.1,hDI.2.2⟩ (by omega) hfb hfs) U ?_);rintro v w ⟨rfl,o2,hM2,H2⟩;replace H:=Ctx.back (L1:=[_,_]) (L2:=_) H H2;rw [← hnext] at hM2;refine Ae U U (Ab (Aa (Ad (Af U U (CI U U U (Ab (Aa (Aq _ U ?_ ?_))))))))
     ·intro h4;replace h4:=CE h4;exact absurd U h4
     ·intro h4;replace h4:=CF h4;refine Av (A6 (Aa (A0 (Ay U U U (by omega) (by omega) ?_))));refine Af U U (Ab (Aa ?_));exact ⟨⟨i+1,o2⟩,rfl,⟨rfl,trivial⟩,⟨by dsimp only; omega,hM2,H⟩,by dsimp only; omega⟩
    ·intro h3;replace h3:=AN h3;obtain rfl:i=m:=by omega
     have hall:=F.all;rw [← hm] at hall;rw [List.take_of_length_le (by rw [List.length_zip,← hm,List.length_take]; omega),hall] at hM1;refine Bt (Am (Am (AK (Aa (Ad (A3 U U (AE U BL U H at4 U (Al U Aeb (Wi (bd:=bx) a (some ⟨b35,0,none⟩) c acs.length acs.length full acs (tab (f i) acs.length) _ (H.get at2) O (fun x hx=>⟨H.blk x (List.mem_append_right [_,_,_,_,_,_,_] hx),fun h=>(List.pairwise_cons.1 H0.nd).1 x (List.mem_cons_of_mem _ (List.mem_cons_of_mem _ hx)) h.symm⟩) (by omega) (Cs (H.get at0)) (CT _ _) (by omega)) U ?_))))))));rintro v w ⟨rfl,full',O',hb',hx66⟩;rw [hSh];refine Ae U U (Ab (Aa (A5 (AA (v:=(.int _ _)) U U U ?_))));have HT:=Ctx.turnEnt (L:=[_,_,_,_,_,_,_]) H hx66 hb';rw [hS9] at HT;have HB:=Ctx.back HF HT;rw [List.append_nil] at HB;exact ⟨rfl,full',o1,O',hM1,(HB.perm (Acw _ _ _ _ _ _ _ _).symm).left (L':=[_,_,_,_])⟩
end Go.Proofs.YtdagmpmdcgedcaaGreat

/- What a round keeps: plain law. -/
namespace Go.Proofs.YtdagmpmdcgedcaaGreat
open Go.GV
attribute [local irreducible] AB W Wq Wt

/-- How a due weighs in a bank's place. -/
def plc (k:Nat) (d:Du):Int:=one (d.to=(k:Int)) - one (d.fr=(k:Int))
theorem LQ {p q:Prop} [Decidable p] [Decidable q] (h:p↔q):one p=one q:=by
 by_cases hp:p
 ·rw [FM hp,FM (h.1 hp)]
 ·rw [Fj hp,Fj (fun hq=>hp (h.2 hq))]
/-- What a bank has, and is owed, less what it owes. -/
def J6 (acs:List Ac) (ds:List Du) (k:Nat):Int:=(acs.getD k a00).ba+Cm (ds.map fun d=>plc k d*d.am)
theorem Pi {acs:List Ac} {ds:List Du} {nx:Int} {r:Rnd} (ha:ED acs=0) (hd:ofC ds nx=0) (hC:E0 acs ds r=0) {k:Nat} {a:Ac} (hk:acs[k]? = some a):(Ft acs ds r)[k]? = some ⟨a.ba+byK (acs.map Dl) (opn ds) r.cmp r.fl k,a.re⟩:=by
 have F:=Gb ha hd hC;unfold Ft;rw [if_pos hC];exact UY (J5 ha (fun k a hk=>(F.by' k a hk).2) F.sum).1 hk
/-- What a planned round does: it can be applied. -/
theorem Pj {acs:List Ac} {ds:List Du} {net:Bool} {r:Rnd} (hb:Dr (acs.map Dl) ds=true) (P:PlanR acs ds net r):E0 acs ds r=0:=by
 unfold E0 M5;rw [P.chk,hb,P.cmp,P.es,P.ids,P.N];simp
theorem Lq:∀ {ds:List Du} {xs:List Int} {e:Du},e∈DS ds xs→∃ d∈ds,e.id=d.id
 | [],_,_,h=>by cases h
 | d::ds,[],e,h=>⟨e,h,rfl⟩
 | d::ds,x::xs,e,h=>by
  unfold DS at h
  split at h
  ·rcases List.mem_cons.1 h with rfl | h
   ·exact ⟨_,List.mem_cons_self ..,rfl⟩
   ·obtain ⟨d',h1,h2⟩:=Lq h;exact ⟨d',List.mem_cons_of_mem _ h1,h2⟩
  ·split at h
   ·obtain ⟨d',h1,h2⟩:=Lq h;exact ⟨d',List.mem_cons_of_mem _ h1,h2⟩
   ·rcases List.mem_cons.1 h with rfl | h
    ·exact ⟨d,List.mem_cons_self ..,rfl⟩
    ·obtain ⟨d',h1,h2⟩:=Lq h;exact ⟨d',List.mem_cons_of_mem _ h1,h2⟩
/-- How far the dues and what is left of them are gone through. -/
def MgI (ds left:List Du) (i j:Nat):Prop:=j≤left.length∧∃ xs,PayIn (opn (ds.drop i)) xs∧left.drop j=DS (ds.drop i) xs
theorem MgI.start {ds:List Du} {xs:List Int} (h:PayIn (opn ds) xs):MgI ds (DS ds xs) 0 0:=⟨Nat.zero_le _,xs,h,rfl⟩
theorem IM {α:Type} {l:List α} {i:Nat} {x:α} (h:l[i]? = some x):l.drop i=x::l.drop (i+1):=by
 obtain ⟨h1,rfl⟩:=List.getElem?_eq_some_iff.1 h;exact List.drop_eq_getElem_cons h1
theorem Pk {α:Type} {l m:List α} {j:Nat} {x:α} (h:l.drop j=x::m):l[j]? = some x∧l.drop (j+1)=m:=by
 have h1:(l.drop j)[0]? = some x:=by rw [h]; rfl
 rw [List.getElem?_drop,Nat.add_zero] at h1;refine ⟨h1,?_⟩;rw [IM h1] at h;injection h
theorem MgI.step {ds left:List Du} {i j:Nat} {d:Du} (hs:(ds.map (·.id)).Pairwise (·<·)) (h:MgI ds left i j) (hd:ds[i]? = some d) (hp:1≤d.am) :
  (∃ e,left[j]? = some e∧e.id=d.id∧e.am≤d.am∧1≤e.am∧(d.held=true→e=d)∧MgI ds left (i+1) (j+1)) ∨
  (d.held=false∧(∀ e,left[j]? = some e→e.id≠d.id)∧MgI ds left (i+1) j):=by
 obtain ⟨hj,xs,hP,hl⟩:=h;rw [IM hd] at hP hl;rw [Hl] at hP
 by_cases hh:d.held=true
 ·rw [if_pos hh] at hP
  have hl':left.drop j=d::DS (ds.drop (i+1)) xs:=by
   rw [hl]; exact Hj hh _ _
  obtain ⟨g1,g2⟩:=Pk hl';exact .inl ⟨d,g1,rfl,Int.le_refl _,hp,fun _=>rfl,Cu g1,xs,hP,g2⟩
 ·rw [if_neg hh] at hP;obtain ⟨x,xs,rfl⟩:=PayIn.cons hP;obtain ⟨⟨h0,h1⟩,hP⟩:=PayIn.tail hP;rw [Hk hh] at hl
  by_cases hx:d.am=x
  ·rw [if_pos hx,List.nil_append] at hl;refine .inr ⟨by simpa using hh,fun e he hid=>?_,hj,xs,hP,hl⟩;have h3:=IM he;rw [hl] at h3;obtain ⟨d',hd',hid'⟩:=Lq (e:=e) (by rw [h3]; exact List.mem_cons_self ..);have hs':((ds.drop i).map (·.id)).Pairwise (·<·):=by rw [List.map_drop]; exact hs.drop
   rw [IM hd,List.map_cons,List.pairwise_cons] at hs';have:=hs'.1 d'.id (List.mem_map_of_mem hd');omega
  ·rw [if_neg hx,List.cons_append,List.nil_append] at hl;obtain ⟨g1,g2⟩:=Pk hl;exact .inl ⟨_,g1,rfl,by dsimp only; omega,by dsimp only; omega,fun h=>absurd h hh,Cu g1,xs,hP,g2⟩
theorem MgI.ends {ds left:List Du} {j:Nat} (h:MgI ds left ds.length j):j=left.length:=by
 obtain ⟨hj,xs,-,hl⟩:=h;rw [List.drop_length] at hl;have:=congrArg List.length hl;rw [List.length_drop] at this;have h0:(DS [] xs).length=0:=rfl;omega
end Go.Proofs.YtdagmpmdcgedcaaGreat

/- Nets that are the same but for the names: plain law of what a round is worth. -/
namespace Go.Proofs.YtdagmpmdcgedcaaGreat
open Go.GV
attribute [local irreducible] AB W Wq Wt

/-- A sum, gone through in another order. -/
theorem Vd {F:Nat→Int} {E:Nat} {s:Nat→Nat} (h1:∀ i,i<E→s i<E) (h2:∀ i,i<E→s (s i)=i):B5 (fun i=>F (s i)) E=B5 F E:=by
 have e1:B5 (fun i=>F (s i)) E=B5 (fun i=>B5 (fun j=>one (s i=j)*F j) E) E:=Cr fun i hi=>(GH F (h1 i hi)).symm;have e2:=N7 (fun i j=>one (s i=j)*F j) E E
 have e3:B5 (fun j=>B5 (fun i=>one (s i=j)*F j) E) E=B5 F E:=Cr fun j hj=>by
  have:B5 (fun i=>one (s i=j)*F j) E=B5 (fun i=>one (s j=i)*F j) E:=Cr fun i hi=>by
   rw [LQ (p:=s i=j) (q:=s j=i) ⟨fun h=>by rw [← h,h2 i hi],fun h=>by rw [← h,h2 j hj]⟩]
  rw [this];exact GH (fun _=>F j) (h1 j hj)
 rw [e1,← e3];exact e2
/-- Two nets that are one but for the names of edges and nodes. -/
structure Twin (g g':Gr) (cap cap':Nat→Int) (s p:Nat→Nat):Prop where
 N:g'.N=g.N
 E:g'.E=g.E
 s1:∀ i,i<g.E→s i<g.E
 s2:∀ i,i<g.E→s (s i)=i
 p1:∀ v,v<g.N→p v<g.N
 p2:∀ v,v<g.N→p (p v)=v
 f:∀ i,i<g.E→g'.f (s i)=p (g.f i)
 t:∀ i,i<g.E→g'.t (s i)=p (g.t i)
 co:∀ i,i<g.E→g'.co (s i)=g.co i
 cap:∀ i,i<g.E→cap' (s i)=cap i
theorem Twin.symm {g g':Gr} {cap cap':Nat→Int} {s p:Nat→Nat} (hg':g'.Ok) (hg:g.Ok) (T:Twin g g' cap cap' s p):Twin g' g cap' cap s p :=
 ⟨T.N.symm,T.E.symm,fun i hi=>by rw [T.E] at hi ⊢; exact T.s1 i hi,fun i hi=>by rw [T.E] at hi; exact T.s2 i hi,
  fun v hv=>by rw [T.N] at hv ⊢; exact T.p1 v hv,fun v hv=>by rw [T.N] at hv; exact T.p2 v hv,
  fun i hi=>by
   rw [T.E] at hi;have h:=T.f (s i) (T.s1 i hi);rw [T.s2 i hi] at h
   rw [h,T.p2 _ (hg.f _ (T.s1 i hi))],
  fun i hi=>by
   rw [T.E] at hi;have h:=T.t (s i) (T.s1 i hi);rw [T.s2 i hi] at h
   rw [h,T.p2 _ (hg.t _ (T.s1 i hi))],
  fun i hi=>by
   rw [T.E] at hi;have h:=T.co (s i) (T.s1 i hi);rw [T.s2 i hi] at h
   exact h.symm,
  fun i hi=>by
   rw [T.E] at hi;have h:=T.cap (s i) (T.s1 i hi);rw [T.s2 i hi] at h
   exact h.symm⟩
theorem Twin.le {g g':Gr} {cap cap' x x' p':Nat→Int} {q:Nat→Int} {s p:Nat→Nat} (T:Twin g g' cap cap' s p) (hg:g.Ok) (h:Fine g cap x q) (h0:∀ v,v<g.N→B6 g x v=0) (h':Fine g' cap' x' p') (h0':∀ v,v<g'.N→B6 g' x' v=0):Gv g x≤Gv g' x':=by
 have hc:Gv g (fun i=>x' (s i))=Gv g' x':=by
  unfold Gv;rw [T.E,← Vd (F:=fun i=>x' i*g'.co i) T.s1 T.s2];exact Cr fun i hi=>by rw [T.co i hi]
 rw [← hc];refine Fine.best hg h h0 (fun i hi=>?_) fun v hv=>?_
 ·have h1:=h'.in' (s i) (by rw [T.E]; exact T.s1 i hi);rw [T.cap i hi] at h1;exact h1
 ·have h1:=h0' (p v) (by rw [T.N]; exact T.p1 v hv);rw [← h1];unfold B6 DQ;rw [T.E,← Vd (F:=fun i=>(one (g'.t i=p v) - one (g'.f i=p v))*x' i) T.s1 T.s2];refine Cr fun i hi=>?_;have hp:∀ u,u<g.N→(u=v↔p u=p v):=fun u hu=>⟨fun h=>by rw [h],fun h=>by rw [← T.p2 u hu,h,T.p2 v hv]⟩;rw [T.t i hi,T.f i hi,LQ (hp _ (hg.t i hi)),LQ (hp _ (hg.f i hi))]
theorem Twin.eq {g g':Gr} {cap cap' x x' p':Nat→Int} {q:Nat→Int} {s p:Nat→Nat} (T:Twin g g' cap cap' s p) (hg:g.Ok) (hg':g'.Ok) (h:Fine g cap x q) (h0:∀ v,v<g.N→B6 g x v=0) (h':Fine g' cap' x' p') (h0':∀ v,v<g'.N→B6 g' x' v=0):Gv g x=Gv g' x' :=
 Int.le_antisymm (T.le hg h h0 h' h0') ((T.symm hg' hg).le hg' h' h0' h h0)
/-- The dues, named the other way round. -/
def flip (n:Nat) (a b:Du):Du:={ b with id:=a.id,fr:=(n:Int) - 1 - b.fr,to:=(n:Int) - 1 - b.to }
def turnD (n:Nat) (ds:List Du):List Du:=List.zipWith (flip n) ds ds.reverse
def mirE (n:Nat) (e:Ed):Ed:={ e with f:=(n:Int) - 1 - e.f,t:=(n:Int) - 1 - e.t }
/-- Where an edge lies in the other one. -/
def sigN (n m i:Nat):Nat:=if i<m then m - 1 - i else m+(2*(n - 1 - (i - m) / 2)+(i - m) % 2)
def piN (n v:Nat):Nat:=if v<n then n - 1 - v else v
end Go.Proofs.YtdagmpmdcgedcaaGreat

/- What planned rounds are worth: plain law. -/
namespace Go.Proofs.YtdagmpmdcgedcaaGreat
open Go.GV
attribute [local irreducible] AB W Wq Wt

def costR (r:Rnd):Int:=Gv (grE r.N r.es) (flE r.fl)
theorem Wz {acs:List Ac} {ds:List Du} {net:Bool} {r:Rnd} (P:PlanR acs ds net r):Cp r.N r.es=true∧Cb r.N r.es r.fl=true∧(∀ v,v<r.N.toNat→B6 (grE r.N r.es) (flE r.fl) v=0)∧Fine (grE r.N r.es) (Cf r.es) (flE r.fl) (E7 r.pot):=by
 obtain ⟨h1,-,h3⟩:=F5.1 P.chk;obtain ⟨h4,h5⟩:=E4 h1;exact ⟨(Ck h4).2.1,h4,h5,h3⟩
theorem Sh {f g:Nat→Int} {m:Nat}:∀ n,m≤n→(∀ i,i<m→f i=g i)→(∀ i,m≤i→i<n→f i=0)→B5 f n=B5 g m
 | 0,h,_,_=>by
  obtain rfl:m=0:=by omega
  rfl
 | n+1,h,h1,h2=>by
  rcases Nat.lt_or_ge n m with h3 | h3
  ·obtain rfl:m=n+1:=by omega
   exact Cr h1
  ·show B5 f n+f n=_;rw [Sh n h3 h1 fun i hi hn=>h2 i hi (by omega),h2 n h3 (by omega),Int.add_zero]
end Go.Proofs.YtdagmpmdcgedcaaGreat

/- What may be paid is worth no more than a round: plain law, for any round. -/
namespace Go.Proofs.YtdagmpmdcgedcaaGreat
open Go.GV

theorem Si {rs:List Int} {os:List Du} {net:Bool} {xs:List Int} (hl:os.length≤xs.length) (v:Nat):∀ k,k≤os.length→(∀ (i:Nat) (d:Du) (x:Int),i<k→os[i]? = some d→xs[i]? = some x→0≤x∧x≤d.am) →
  -Cm ((os.map Du.am).take k)≤DQ (grE ((rs.length+1:Nat):Int) (BA rs os net)) (flE xs) k v∧DQ (grE ((rs.length+1:Nat):Int) (BA rs os net)) (flE xs) k v≤Cm ((os.map Du.am).take k)
 | 0,_,_=>⟨Int.le_refl _,Int.le_refl _⟩
 | k+1,h,hp=>by
  have ih:=Si (rs:=rs) (net:=net) hl v k (by omega) fun i d x hi=>hp i d x (by omega);obtain ⟨d,hd⟩:=AD (l:=os) (i:=k) (by omega);obtain ⟨x,hx⟩:=AD (l:=xs) (i:=k) (by omega);have h1:=hp k d x (by omega) hd hx;have hm:(os.map Du.am)[k]? = some d.am:=by rw [List.getElem?_map,hd]; rfl
  have h2:∀ (p q:Prop) [Decidable p] [Decidable q],-x≤(one p - one q)*x∧(one p - one q)*x≤x:=fun p q _ _=>by
   by_cases hp:p <;> by_cases hq:q <;> simp only [one,if_pos,if_neg,hp,hq,not_false_eq_true,if_true,if_false] <;> omega
  rw [FY,JM hm,show flE xs k=x from Bm hx];have h3:=h2 ((grE ((rs.length+1:Nat):Int) (BA rs os net)).t k=v) ((grE ((rs.length+1:Nat):Int) (BA rs os net)).f k=v);omega
theorem Abl {rs:List Int} {os:List Du} {net:Bool} {xs:List Int} (hp:PayIn os xs) (v:Nat) (k:Nat) (h:k≤os.length) :
  -Cm ((os.map Du.am).take k)≤DQ (grE ((rs.length+1:Nat):Int) (BA rs os net)) (flE xs) k v∧DQ (grE ((rs.length+1:Nat):Int) (BA rs os net)) (flE xs) k v≤Cm ((os.map Du.am).take k) :=
 Si (Nat.le_of_eq hp.1) v k h fun i d x _=>hp.2 i d x
theorem W0 {xs:List Int} (h:∀ x∈xs,0≤x) (k:Nat):Cm (xs.take k)≤Cm xs:=by
 have h1:Cm (xs.take k++xs.drop k)=Cm (xs.take k)+Cm (xs.drop k):=EP _ _;rw [List.take_append_drop] at h1;have h2:=Gz (xs:=xs.drop k) fun x hx=>h x (List.mem_of_mem_drop hx);omega
/-- What a bank may go down by. -/
def Ve (rs:List Int) (net:Bool) (k:Nat):Int:=if net=true then 0 else rs.getD k 0
def Sj (rs:List Int) (os:List Du) (net:Bool) (xs:List Int) (k:Nat):Int:=Ve rs net k+byK rs os net xs k
/-- What may be paid. -/
structure PermP (rs:List Int) (ds:List Du) (net:Bool) (xs:List Int):Prop where
 B:Bright rs ds
 pay:PayIn (opn ds) xs
 left:∀ k,k<rs.length→0≤Sj rs (opn ds) net xs k∧(net=true→Sj rs (opn ds) net xs k=0)
def EQ (os:List Du) (xs:List Int) (k:Nat):Int:=B5 (fun i=>(os.getD i d00).we*xs.getD i 0) k
theorem Mr {os:List Du} {xs:List Int} {k:Nat} {d:Du} {x:Int} (hd:os[k]? = some d) (hx:xs[k]? = some x):EQ os xs (k+1)=EQ os xs k+d.we*x:=by
 show EQ os xs k+(os.getD k d00).we*xs.getD k 0=_;rw [Bm hd,Bm hx]
theorem Kw {os:List Du} {xs:List Int} (hp:PayIn os xs) (hos:∀ d∈os,0≤d.we∧d.we≤1000):∀ k,k≤os.length→0≤EQ os xs k∧EQ os xs k≤1000*Cm ((os.map Du.am).take k)
 | 0,_=>⟨Int.le_refl _,Int.le_refl _⟩
 | k+1,h=>by
  have ih:=Kw hp hos k (by omega);have hl:=hp.1;obtain ⟨d,hd⟩:=AD (l:=os) (i:=k) (by omega);obtain ⟨x,hx⟩:=AD (l:=xs) (i:=k) (by omega);have h1:=hp.2 k d x hd hx;have hw:=hos d (List.mem_of_getElem? hd);have hm:(os.map Du.am)[k]? = some d.am:=by rw [List.getElem?_map,hd]; rfl
  have h2:0≤d.we*x:=Int.mul_nonneg hw.1 h1.1;have h3:d.we*x≤1000*d.am:=Int.le_trans (Int.mul_le_mul_of_nonneg_right hw.2 h1.1) (Int.mul_le_mul_of_nonneg_left h1.2 (by decide));rw [Mr hd hx,JM hm];omega
/-- What flows where that is paid. -/
def Hn (rs:List Int) (os:List Du) (net:Bool) (xs:List Int) (i:Nat):Int :=
 if i<os.length then flE xs i else if (i - os.length) % 2=0 then max 0 (-byK rs os net xs ((i - os.length) / 2)) else max 0 (byK rs os net xs ((i - os.length) / 2))
theorem LR {rs:List Int} {os:List Du} {net:Bool} {xs:List Int} {i:Nat} (h:i<os.length):Hn rs os net xs i=flE xs i:=if_pos h
theorem Sk (rs:List Int) (os:List Du) (net:Bool) (xs:List Int) (k:Nat):Hn rs os net xs (os.length+2*k)=max 0 (-byK rs os net xs k):=by
 unfold Hn;rw [if_neg (by omega),if_pos (by omega),show (os.length+2*k - os.length) / 2=k by omega]
theorem Pl (rs:List Int) (os:List Du) (net:Bool) (xs:List Int) (k:Nat):Hn rs os net xs (os.length+2*k+1)=max 0 (byK rs os net xs k):=by
 unfold Hn;rw [if_neg (by omega),if_neg (by omega),show (os.length+2*k+1 - os.length) / 2=k by omega]
theorem J7 {g:Gr} {x y:Nat→Int} (v:Nat):∀ k,(∀ i,i<k→x i=y i)→DQ g x k v=DQ g y k v
 | 0,_=>rfl
 | k+1,h=>by rw [FY,FY,J7 v k fun i hi=>h i (by omega),h k (by omega)]
theorem Sm {rs:List Int} {os:List Du} {j:Nat} (hj:j<rs.length):∃ x,rs[j]? = some x∧(BA rs os false)[os.length+2*j]? = some ⟨rs.length,j,x,0⟩∧(BA rs os false)[os.length+2*j+1]? = some ⟨j,rs.length,4503599627370496,0⟩:=by
 obtain ⟨x,hx⟩:=AD hj;exact ⟨x,hx,JN (Ln hx),by rw [Nat.add_assoc]; exact JN (MN hj)⟩
/-- It goes round. -/
theorem TU {rs:List Int} {ds:List Du} {net:Bool} {xs:List Int} (P:PermP rs ds net xs):∀ v,v<rs.length+1→B6 (grE ((rs.length+1:Nat):Int) (BA rs (opn ds) net)) (Hn rs (opn ds) net xs) v=0:=by
 have hB:=P.B.right net;have hok:=IG hB;have hN:(grE ((rs.length+1:Nat):Int) (BA rs (opn ds) net)).N=rs.length+1:=by show ((rs.length+1:Nat):Int).toNat=_; omega
 have hE:(grE ((rs.length+1:Nat):Int) (BA rs (opn ds) net)).E=(BA rs (opn ds) net).length:=rfl;have hlen:=GJ rs (opn ds) net
 have hb:∀ v,v<rs.length→B6 (grE ((rs.length+1:Nat):Int) (BA rs (opn ds) net)) (Hn rs (opn ds) net xs) v=0:=fun v hv=>by
  have h0:DQ (grE ((rs.length+1:Nat):Int) (BA rs (opn ds) net)) (Hn rs (opn ds) net xs) (opn ds).length v=byK rs (opn ds) net xs v:=J7 v _ fun i hi=>LR hi;unfold B6;rw [hE,hlen]
  cases net with
  | true =>
   rw [if_pos rfl,show (opn ds).length+0=(opn ds).length from rfl,h0];have:=(P.left v hv).2 rfl;unfold Sj Ve at this;rw [if_pos rfl] at this;omega
  | false =>
   rw [if_neg (by decide),NR (n:=rs.length) (fun j hj=>?_) hv rs.length (Nat.le_refl _),if_pos hv,h0,Sk,Pl]
   ·omega
   ·obtain ⟨x,-,e1,e2⟩:=Sm (os:=opn ds) hj;rw [RZ e1,Sa e1,RZ e2,Sa e2];dsimp only;omega
 intro v hv
 rcases Nat.lt_or_ge v rs.length with h | h
 ·exact hb v h
 ·obtain rfl:v=rs.length:=by omega
  have ha:=over_all _ hok (Hn rs (opn ds) net xs);rw [hN] at ha;have h2:B5 (B6 (grE ((rs.length+1:Nat):Int) (BA rs (opn ds) net)) (Hn rs (opn ds) net xs)) rs.length=B5 (fun _=>0) rs.length:=Cr hb;have h3:B5 (B6 (grE ((rs.length+1:Nat):Int) (BA rs (opn ds) net)) (Hn rs (opn ds) net xs)) rs.length+B6 (grE ((rs.length+1:Nat):Int) (BA rs (opn ds) net)) (Hn rs (opn ds) net xs) rs.length=0:=ha;rw [h2,Gu] at h3;omega
/-- An edge of a round, by where it lies. -/
theorem Pm {rs:List Int} {os:List Du} {net:Bool} {i:Nat} (hi:i<(BA rs os net).length):(∃ d,os[i]? = some d∧(BA rs os net)[i]? = some (Ku d)) ∨
  (net=false∧∃ k x,k<rs.length∧rs[k]? = some x∧((i=os.length+2*k∧(BA rs os net)[i]? = some ⟨rs.length,k,x,0⟩)∨(i=os.length+2*k+1∧(BA rs os net)[i]? = some ⟨k,rs.length,4503599627370496,0⟩))):=by
 have hlen:=GJ rs os net
 rcases Nat.lt_or_ge i os.length with h | h
 ·obtain ⟨d,hd⟩:=AD h;exact .inl ⟨d,hd,IL hd⟩
 ·cases net with
  | true=>rw [hlen,if_pos rfl] at hi; omega
  | false =>
   rw [hlen,if_neg (by decide)] at hi;obtain ⟨x,hx,e1,e2⟩:=Sm (os:=os) (j:=(i - os.length) / 2) (rs:=rs) (by omega);refine .inr ⟨rfl,(i - os.length) / 2,x,by omega,hx,?_⟩
   by_cases hp:(i - os.length) % 2=0
   ·exact .inl ⟨by omega,by rw [show os.length+2*((i - os.length) / 2)=i by omega] at e1; exact e1⟩
   ·exact .inr ⟨by omega,by rw [show os.length+2*((i - os.length) / 2)+1=i by omega] at e2; exact e2⟩
theorem W1 {rs:List Int} {ds:List Du} {net:Bool} {xs:List Int} (P:PermP rs ds net xs) {i:Nat} (hi:i<(BA rs (opn ds) net).length):0≤Hn rs (opn ds) net xs i∧Hn rs (opn ds) net xs i≤Cf (BA rs (opn ds) net) i:=by
 have htot:=P.B.open'.tot;unfold Cf
 rcases Pm hi with ⟨d,hd,he⟩ | ⟨rfl,k,x,hk,hx,⟨rfl,he⟩ | ⟨rfl,he⟩⟩
 ·have hl:=P.pay.1;have hlt:=Cu hd;obtain ⟨y,hy⟩:=AD (l:=xs) (i:=i) (by omega);have:=P.pay.2 i d y hd hy;rw [LR hlt,show flE xs i=y from Bm hy,Bm he];exact this
 ·rw [Sk,Bm he];have h1:=(P.left k hk).1;have h2:=C9.1 (P.B.may x (List.mem_of_getElem? hx));unfold Sj Ve at h1;rw [if_neg (by decide),Bm hx] at h1;show 0≤max 0 _∧max 0 _≤x;omega
 ·rw [Pl,Bm he];have h1:=(Abl (rs:=rs) (net:=false) P.pay k _ (Nat.le_refl _)).2;rw [List.take_of_length_le (by rw [List.length_map]; exact Nat.le_refl _)] at h1;have h2:byK rs (opn ds) false xs k≤4503599627370496:=Int.le_trans h1 htot;show 0≤max 0 _∧max 0 _≤(4503599627370496:Int);omega
/-- What costs are worth. -/
theorem Ms {rs:List Int} {os:List Du} {net:Bool} {y:Nat→Int} {xs:List Int} (hy:∀ i,i<os.length→y i=flE xs i):Gv (grE ((rs.length+1:Nat):Int) (BA rs os net)) y = -EQ os xs os.length:=by
 have hlen:=GJ rs os net
 have h1:Gv (grE ((rs.length+1:Nat):Int) (BA rs os net)) y=B5 (fun i => -((os.getD i d00).we*xs.getD i 0)) os.length:=by
  unfold Gv;refine Sh (f:=fun i=>y i*(grE ((rs.length+1:Nat):Int) (BA rs os net)).co i) _ (by show os.length≤(BA rs os net).length; omega) (fun i hi=>?_) fun i hi h2=>?_
  ·obtain ⟨d,hd⟩:=AD hi
   (try dsimp only)
   rw [Sb (IL hd),Bm hd,hy i hi];unfold Ku flE;dsimp only;rw [Int.mul_neg,Int.mul_comm]
  ·rcases Pm (rs:=rs) (os:=os) (net:=net) (i:=i) h2 with ⟨d,hd,he⟩ | ⟨hn,k,x,hk,hx,⟨hi2,he⟩ | ⟨hi2,he⟩⟩
   ·have:=Cu hd;omega
   ·(try dsimp only)
    rw [Sb he];exact Int.mul_zero _
   ·(try dsimp only)
    rw [Sb he];exact Int.mul_zero _
 rw [h1,MJ];rfl
/-- What a round of rooms and dues says, whatever its number. -/
structure RndF (rs:List Int) (ds:List Du) (net:Bool) (r:Rnd):Prop where
 N:r.N=((rs.length+1:Nat):Int)
 es:r.es=BA rs (opn ds) net
 chk:Fc r.N r.es r.fl r.pot=true
theorem RndF.fine {rs:List Int} {ds:List Du} {net:Bool} {r:Rnd} (P:RndF rs ds net r):Cp r.N r.es=true∧Cb r.N r.es r.fl=true∧(∀ v,v<r.N.toNat→B6 (grE r.N r.es) (flE r.fl) v=0)∧Fine (grE r.N r.es) (Cf r.es) (flE r.fl) (E7 r.pot):=by
 obtain ⟨h1,-,h3⟩:=F5.1 P.chk;obtain ⟨h4,h5⟩:=E4 h1;exact ⟨(Ck h4).2.1,h4,h5,h3⟩
theorem RndF.best {rs:List Int} {ds:List Du} {net:Bool} {r:Rnd} (P:RndF rs ds net r) {xs:List Int} (Q:PermP rs ds net xs):EQ (opn ds) xs (opn ds).length≤EQ (opn ds) (r.fl) (opn ds).length:=by
 obtain ⟨p1,p2,p3,p4⟩:=P.fine;rw [P.N,P.es] at p1 p3 p4;have hN:(grE ((rs.length+1:Nat):Int) (BA rs (opn ds) net)).N=rs.length+1:=by show ((rs.length+1:Nat):Int).toNat=_; omega
 have hN2:((rs.length+1:Nat):Int).toNat=rs.length+1:=by omega
 have h:=Fine.best (IG p1) p4 (fun v hv=>p3 v (by rw [hN] at hv; omega)) (y:=Hn rs (opn ds) net xs) (fun i hi=>W1 Q hi) fun v hv=>TU Q v (by rw [hN] at hv; exact hv);rw [Ms (xs:=r.fl) fun i _=>rfl,Ms fun i hi=>LR hi] at h;omega
/-- What is told of the pays that a round makes. -/
theorem RndF.perm {rs:List Int} {ds:List Du} {net:Bool} {r:Rnd} (P:RndF rs ds net r) (hB:Bright rs ds):PermP rs ds net (r.fl.take (opn ds).length)∧B5 (byK rs (opn ds) net r.fl) rs.length=0∧(∀ (k:Nat) (x:Int),rs[k]? = some x→(net=true→byK rs (opn ds) net r.fl k=0) ∧ -x≤byK rs (opn ds) net r.fl k∧byK rs (opn ds) net r.fl k≤4503599627370496):=by
 have hc:=(F5.1 P.chk).1;rw [P.N,P.es] at hc;obtain ⟨h1,h2,h3,h4⟩:=Sc (fun x hx=>(C9.1 (hB.may x hx)).1) hB.open'.due hc;refine ⟨⟨hB,h1,fun k hk=>?_⟩,h4,h3⟩
 have hby:byK rs (opn ds) net (r.fl.take (opn ds).length) k=byK rs (opn ds) net r.fl k:=J7 k _ fun i hi=>by
  unfold flE;rw [List.getD_eq_getElem?_getD,List.getD_eq_getElem?_getD,List.getElem?_take,if_pos hi]
 obtain ⟨x,hx⟩:=AD hk;obtain ⟨g1,g2,-⟩:=h3 k x hx;unfold Sj Ve;rw [hby]
 cases net with
 | true=>rw [if_pos rfl,g1 rfl]; exact ⟨by omega,fun _=>by omega⟩
 | false=>rw [if_neg (by decide),Bm hx]; exact ⟨by omega,fun h=>by cases h⟩
theorem TV {os:List Du} {fl:List Int}:∀ k,k≤os.length→EQ os (fl.take os.length) k=EQ os fl k:=fun k hk=>Cr fun i hi=>by
 rw [List.getD_eq_getElem?_getD (l:=fl.take os.length),List.getD_eq_getElem?_getD (l:=fl),List.getElem?_take,if_pos (by omega)]
/-! ### A round behind a round -/
/-- What is paid of each due, at first and then. -/
def YT:List Du→List Int→List Int→List Int
 | [],_,_=>[]
 | _::_,[],ys=>ys
 | d::os,x::xs,ys=>if d.am=x then x::YT os xs ys else match ys with
  | []=>x::YT os xs []
  | y::ys=>(x+y)::YT os xs ys
/-- What is left of open dues. -/
def Acx:List Du→List Int→List Du
 | [],_=>[]
 | d::ds,[]=>d::ds
 | d::ds,x::xs=>if d.am=x then Acx ds xs else { d with am:=d.am - x }::Acx ds xs
end Go.Proofs.YtdagmpmdcgedcaaGreat

/- A round right behind a round pays nothing: plain law. -/
namespace Go.Proofs.YtdagmpmdcgedcaaGreat
open Go.GV

theorem Lr:∀ {ds:List Du} {xs:List Int} {e:Du},e∈DS ds xs→∃ d∈ds,e.fr=d.fr∧e.to=d.to∧e.we=d.we
 | [],_,_,h=>by cases h
 | d::ds,[],e,h=>⟨e,h,rfl,rfl,rfl⟩
 | d::ds,x::xs,e,h=>by
  unfold DS at h
  split at h
  ·rcases List.mem_cons.1 h with rfl | h
   ·exact ⟨_,List.mem_cons_self ..,rfl,rfl,rfl⟩
   ·obtain ⟨d',h1,h2⟩:=Lr h;exact ⟨d',List.mem_cons_of_mem _ h1,h2⟩
  ·split at h
   ·obtain ⟨d',h1,h2⟩:=Lr h;exact ⟨d',List.mem_cons_of_mem _ h1,h2⟩
   ·rcases List.mem_cons.1 h with rfl | h
    ·exact ⟨_,List.mem_cons_self ..,rfl,rfl,rfl⟩
    ·obtain ⟨d',h1,h2⟩:=Lr h;exact ⟨d',List.mem_cons_of_mem _ h1,h2⟩
/-- What is left makes a round, too. -/
theorem Sn {acs:List Ac} {ds:List Du} {nx:Int} {r:Rnd} (ha:ED acs=0) (hd:ofC ds nx=0) (hC:E0 acs ds r=0):Bright ((Ft acs ds r).map Dl) (Ga acs ds r):=by
 have F:=Gb ha hd hC;obtain ⟨h1,h2,h3⟩:=JP (r:=r) ha hd;refine Kv h1 h2 fun d hdm=>?_;unfold Ga at hdm;rw [if_pos hC] at hdm;obtain ⟨d',h4,h5,h6,-⟩:=Lr hdm;have h7:=(F.B.due d' h4).2;rw [List.length_map] at h7;rw [h3];omega
end Go.Proofs.YtdagmpmdcgedcaaGreat
