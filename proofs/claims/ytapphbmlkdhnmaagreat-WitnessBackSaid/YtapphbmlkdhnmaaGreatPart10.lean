/- Part 10 of the proof. -/
import Derived.Test.YtapphbmlkdhnmaaGreatPart2
import Derived.Test.YtapphbmlkdhnmaaGreatPart9
import Derived.Test.YtapphbmlkdhnmaaGreatPart3
import Derived.Test.YtapphbmlkdhnmaaGreatPart4
import Derived.Test.YtapphbmlkdhnmaaGreatPart7
/- A round's net, built: the walk. -/
namespace Go.Proofs.YtapphbmlkdhnmaaGreat
open Go.GV
attribute [local irreducible] A2 W Wq Wt

/-- Three results, the first in a cell, behind marks. -/
theorem QI {P:Program} {e:Env} {w:World} {fn:Func} {R:Value→World→Prop} {a s2 s3:Tmp} {t:TypeId} {p:Addr} {v2 v3:Value} (hr:fn.results=#[.cell a t,.tmp s2,.tmp s3]) (ha:e.g a = .pointer (some p)) (h2:e.g s2=v2) (h3:e.g s3=v3) (h:Marks e.ds w fun w'=>∃ v,(loadVar t p).run P w' = .ok v w'∧R (.tuple #[v,v2,v3]) w'):PV P fn R .ret e w :=
 Marks.mono (fun w ⟨v,hv,h⟩ tmps ht=>by
  have h1:=(ht a).trans ha
  have g2:=(ht s2).trans h2
  have g3:=(ht s3).trans h3
  rw [Array.getD_eq_getD_getElem?] at h1 g2 g3
  exact ⟨.tuple #[v,v2,v3],by simp [results,hr,h1,g2,g3,asAddr,hv],h⟩) h
/-- What a round's net is. -/
def X8 (w:World) (rs:List Int) (ds:List Du) (net:Bool) (v:Value) (w':World):Prop :=
 Ext [] w w'∧((CV rs ds=false∧v = .tuple #[CG 0 none 0 0,.slice none 0 0,.int .i64 1]) ∨
  (CV rs ds=true∧∃ aE nE cE vI,v = .tuple #[CG ((rs.length+1:Nat):Int) aE nE cE,vI,.int .i64 0]∧Sl w w' (.slice aE nE cE) 4 Bv (Dg rs (opn ds) net)∧Sl w w' vI 1 U1 ((opn ds).map Du.id)))
/-- What the rounds leave. -/
def rndJ (ws:World) (b6:Nat) (N:Int) (es:List Ed) (i:Nat) (M:Mt) (w:World):Prop :=
 ∃ a c full,(M=fun y=>y∈((b6,Bl 28 [.int .i64 N,.slice a i c])::ent a 92 full).map (·.1))∧Ctx ws [b6] w ((b6,Bl 28 [.int .i64 N,.slice a i c])::ent a 92 full) ∧
  OS a i c 4 full ((es.take i).flatMap Bv)∧∀ y∈((b6,Bl 28 [.int .i64 N,.slice a i c])::ent a 92 full).map (·.1),y≠ws.heap.size∧y≠ws.heap.size+1
set_option maxRecDepth 20000 in
set_option maxHeartbeats 4000000 in
theorem Ob (a b:Option Addr) (n c m e:Nat) (rs:List Int) (ds:List Du) (net:Bool) (w:World) (R:Rd w a 1 I1 rs) (hn:rs.length=n) (hn2:n≤1000000) (Rd':Rd w b 7 Ee ds) (hm:ds.length=m) (hm2:m≤1000000) :
  Ret Tryz.prog 58 #[.slice a n c,.slice b m e,.bool net] w (X8 w rs ds net):=by
 subst hn hm
 obtain ⟨w0,rfl⟩:∃ w0,w0=w:=⟨_,rfl⟩
 have H:=Ctx.start w0 []
 obtain ⟨bb,hbb⟩:∃ bb,bb=CV rs ds:=⟨_,rfl⟩
 obtain ⟨os,hos⟩:∃ os,os=opn ds:=⟨_,rfl⟩
 have hol:os.length≤ds.length:=by rw [hos]; exact TX ds
 refine Gc (fn:=Tryz.f58) Tryz.func58 rfl [.slice a rs.length c,.slice b ds.length e,.bool net] rfl (by kernel_rfl) ?_
 refine Ag (Bm rfl T8 H ?_)
 rintro b6 w - H
 refine AJ rfl rfl (Af rfl rfl (Ab (Aa (Aq (Ag (An rfl rfl (An rfl rfl (Ao rfl Aa3 (Vl a b _ c _ e rs ds _ (R.ext0 H.ext) rfl hn2 (Rd'.ext0 H.ext) rfl hm2) rfl ?_))))))))
 rintro v w ⟨rfl,hx14⟩
 replace H:=H.call hx14
 rw [← hbb]
 refine Bu rfl rfl (Ab (Aa (Ax _ rfl ?_ ?_)))
 ·intro h1
  replace h1:=Bp h1
  refine Ag (Bh rfl Cu Ci rfl H at0 rfl (BD rfl Ci rfl rfl rfl (by simp [Bz]) H at0 rfl ?_))
  rintro w H
  refine AJ rfl rfl (Af rfl rfl (Ab (Aa (A9 (Al (QI rfl rfl rfl rfl ?_))))))
  exact ⟨_,ET Cu Ci rfl (fun j v hv=>by rw [Ay (H.get at0),Nat.zero_add]; exact hv),H.ext,.inl ⟨by rw [← hbb]; exact h1,rfl⟩⟩
 ·intro h1
  replace h1:=Bq h1
  refine Av (Aa (Ag (An rfl rfl (AU rfl AR rfl (Ap rfl rfl rfl (by omega) (by omega) ?_)))))
  refine Ah rfl Dn rfl (Cj (.int _ _) rfl EJ rfl rfl rfl H at0 (by decide) ?_)
  rintro w H
  refine Ab (Aa (Ag (An rfl rfl (Ao rfl Aa4 (Z0 b _ e ds _ (Rd'.ext0 H.ext) rfl hm2) rfl ?_))))
  rintro v w F
  rw [← hos] at F
  obtain ⟨a4,n4,c4,f4,rfl,O4,hb4⟩:=F.ex
  have hl4:=O4.llen
  rw [MN] at hl4
  obtain rfl:os.length=n4:=by omega
  refine AJ rfl rfl (Ab (Aa (Aq ?_)))
  have hb6:=H.lt at0
  have RO:Rd w a4 7 Ee os:=OS.rd O4 (fun y hy=>(hb4 y hy).1) (fun _ _=>rfl) (by omega)
  have hROn:os≠[]→(adr a4).block∉[b6]:=fun hne=>by
   obtain ⟨q,rfl⟩:=O4.form (List.length_pos_iff.2 hne)
   have:=(hb4 (q,Bl 62 f4) (List.mem_singleton.2 rfl)).2
   rw [List.mem_singleton]
   show q≠b6
   dsimp only at this
   omega
  have H4:=H.call F.ext
  have hs4:=H4.size
  have hl64:=H4.lt at0
  obtain ⟨w4,rfl⟩:∃ z,z=w:=⟨_,rfl⟩
  have H:=Ctx.lend (L1:=[_]) (L2:=[]) H4
  dsimp only [List.map] at H
  refine Ag (An rfl rfl (AU rfl DY rfl (Ad rfl rfl (Ab (Aa (Au (Bi 34326185088 (α:=LSt) (fun t=>[(7,.slice t.a t.i t.c),(25,.int .i64 (t.i:Int))]) (fun t w'=>t.i≤os.length∧OS t.a t.i t.c 1 t.full (((os.take t.i).map Du.id).map Fb)∧Ctx w4 [b6] w' ((b6,Bl 28 [.int .i64 ((rs.length:Int)+1),.slice none 0 0])::ent t.a 24 t.full)) (fun t=>os.length - t.i) ⟨0,none,0,[]⟩ rfl ?_ ?_ ?_)))))))
  ·exact ⟨rfl,rfl,trivial⟩
  ·exact ⟨Nat.zero_le _,OS.nil,H⟩
  ·clear H
   rintro ⟨i,a2,c2,full⟩ jj w ⟨hi,O,H⟩; dsimp only at hi O H; dsimp only
   refine Ag (AN rfl rfl rfl (Ab (Aa (Aq (Ax _ rfl ?_ ?_)))))
   ·intro h3
    replace h3:=AF h3
    obtain ⟨d,hd⟩:=AC (l:=os) (i:=i) (by omega)
    refine Av (Aa (Aq (Au (Ag (AZ RO rfl DY D4 rfl rfl (by omega) (by omega) (by rfl) ?_)))))
    refine Cr _ rfl Iw D4 rfl rfl ((RO.ext' H.ext hROn).row hd rfl) ?_
    refine Bm rfl Ig H ?_
    rintro b10 w - H
    refine BD rfl D4 rfl rfl rfl (by exact FN _) H at0 rfl ?_
    rintro w H
    refine Ab (Aa (Aw (An rfl rfl (Ah rfl IY rfl (AA rfl BK rfl H at0 rfl (DC _ (.int _ _) rfl Be AY M4 rfl (by decide) (by decide) rfl rfl rfl H ?_))))))
    rintro b32 w - H
    refine DM (L:=[_,_]) rfl Be Be AY Wk M4 rfl (by decide) rfl rfl H O rfl (by simp [Bz]) (by omega) ?_
    rintro a' c' full' w H O
    refine AJ rfl rfl (Ab (A5 (Aa (Aw (Ap rfl rfl rfl (by omega) (by omega) ?_)))))
    refine Ad rfl rfl (Ab (Aa ?_))
    exact ⟨⟨i+1,a',c',full'⟩,rfl,⟨rfl,rfl,trivial⟩,⟨by dsimp only; omega,by dsimp only; rw [Xy hd,List.map_append]; exact O,H.tail⟩,by dsimp only; omega⟩
   ·intro h3
    replace h3:=AG h3
    obtain rfl:i=os.length:=by omega
    rw [List.take_length] at O
    refine Bd (Aj (Aj (AD (Aa (Aq (Ag (An rfl rfl (An rfl rfl (Ak rfl rfl (Ao rfl Aa7 (Vm a a4 _ c _ c4 net _) rfl ?_))))))))))
    rintro v w ⟨x1,x2,x3,rfl,H10⟩
    have H5:=H.call H10.ext
    refine Ab (Aa (Au ?_))
    have RI0:Rd w a2 1 U1 (os.map Du.id):=O.rd1 fun x hx=>H5.blk x (List.mem_cons_of_mem _ hx)
    have hRIn:os.map Du.id≠[]→w4.heap.size≤(adr a2).block:=fun hne=>by
     obtain ⟨q,rfl⟩:=O.form (by have:=List.length_pos_iff.2 hne; rw [List.length_map] at this; exact this)
     rcases H.own (q,Bl 24 full) (List.mem_cons_of_mem _ (List.mem_singleton.2 rfl)) with h | h
     ·exact absurd (List.mem_singleton.1 h) fun h=>H.ne (i:=1) (j:=0) rfl rfl (by decide) h
     ·exact h
    have hk1:=H10.get at1
    have hk2:=H10.get at0
    have hk3:=H10.get at2
    have ho1:=(H10.own _ (List.mem_of_getElem? at1)).elim (fun h=>by cases h) id
    have ho2:=(H10.own _ (List.mem_of_getElem? at0)).elim (fun h=>by cases h) id
    have ho3:=(H10.own _ (List.mem_of_getElem? at2)).elim (fun h=>by cases h) id
    dsimp only at ho1 ho2 ho3
    have hl6:=H.lt at0
    have hs5:=H5.size
    have hx5:=H4.ext.then H5.ext fun x hx => .inr (by rw [List.mem_singleton.1 hx]; exact (H4.own _ (List.mem_of_getElem? at0)).elim (fun h=>by cases h) id)
    have hb60:w0.heap.size≤b6:=(H4.own _ (List.mem_of_getElem? at0)).elim (fun h=>by cases h) id
    have RR:=R.ext0 hx5
    have RO5:=RO.ext' H5.ext hROn
    have hwe:∀ d∈os,-1000000000≤d.we∧d.we≤1000000000:=fun d hd=>by
     rw [hbb] at h1
     have hB:=(MP (by omega)).1 h1
     rw [hos] at hd
     have:=(Kl (hB.due d (TW hd).1).1).2.2.2.2.1
     omega
    obtain ⟨ws,rfl⟩:∃ z,z=w:=⟨_,rfl⟩
    have H:=Ctx.lend (L1:=[_]) (L2:=_) H5
    dsimp only [List.map] at H
    obtain ⟨es,hes⟩:∃ es,es=Dg rs os net:=⟨_,rfl⟩
    have hnR:rs≠[]→(adr a).block∉[b6]:=fun hne=>by
     have:=R.lt' (fun _ _=>rfl) (by decide) hne
     rw [List.mem_singleton]; omega
    have heL:es.length≤3000000:=by rw [hes,TV]; split <;> omega
    refine JW (gf:=162) rfl Abu (SG (b1:=x1) (b2:=x2) (b3:=x3) (a:=a) (b:=a4) (c:=c) (e:=c4) (rs:=rs) (ds:=os) (net:=net) rfl rfl hn2 (by omega) hwe) (by kernel_rfl) (by kernel_rfl) (fun v hv=>by obtain ⟨p,-,rfl⟩:=List.mem_map.1 hv; rfl)
     (rndJ ws b6 ((rs.length:Int)+1) es) (fun _=>False) (by simp)
     (fun w2 hx2 _=>⟨_,none,0,[],rfl,H.call hx2,OS.nil,by simp [ent]; omega⟩)
     (fun i M w' w'' hJ hx=>?_) (fun _ _ h _=>h) (fun i M w' hJ=>?_) ?_ ?_ (fun _ h _=>h.elim)
    ·obtain ⟨a7,c7,f7,hM,HJ,O7,hne⟩:=hJ
     refine ⟨a7,c7,f7,hM,HJ.step hx (fun y hy hy2=>?_) (fun x hx => .inr ?_),O7,hne⟩
     ·have:=hne _ (List.mem_map_of_mem (f:=(·.1)) hy)
      simp only [List.mem_cons,List.not_mem_nil,or_false] at hy2
      omega
     ·simp only [List.mem_cons,List.not_mem_nil,or_false] at hx
      omega
    ·obtain ⟨a7,c7,f7,hM,HJ,O7,hne⟩:=hJ
     refine ⟨fun x hx=>?_,HJ.ext.to hk1 (by rw [List.mem_singleton]; omega),HJ.ext.to hk2 (by rw [List.mem_singleton]; omega),HJ.ext.to hk3 (by rw [List.mem_singleton]; omega),RR.ext' HJ.ext hnR,RO5.ext' HJ.ext hROn⟩
     rw [hM] at hx
     obtain ⟨y,hy,rfl⟩:=List.mem_map.1 hx
     exact ⟨Bt (HJ.blk y hy),hne _ hx⟩
    ·rintro i v M w hxv ⟨a7,c7,f7,rfl,HJ,O7,hne⟩ hsz
     rw [List.getElem?_map] at hxv
     obtain ⟨ed,hed,rfl⟩:=Option.map_eq_some_iff.1 hxv
     rw [← hes] at hed
     have hil:=CB hed
     obtain ⟨w1,rfl⟩:∃ z,z=w:=⟨_,rfl⟩
     have H:=Ctx.start w1 []
     refine Aw (Bm rfl DH H ?_)
     rintro b11 w - H
     refine BD rfl BC rfl rfl rfl (by exact Dk _) H at0 rfl ?_
     rintro w H
     refine Ab ?_
     refine ⟨H.ext,fun wB hxB=>?_⟩
     have hb11:=(H.own _ (List.mem_cons_self ..)).elim (fun h=>by cases h) id
     dsimp only at hb11
     have hs1:=H.size
     have hsB:=hxB.size
     have HB:=(HJ.callAdd H.ext (H.get at0) hb11).step hxB (fun y hy=>by
      rw [List.mem_singleton]
      rcases List.mem_cons.1 hy with rfl | hy
      ·dsimp only; omega
      ·exact (hne _ (List.mem_map_of_mem (f:=(·.1)) hy)).2) (fun z hz => .inr (by rw [List.mem_singleton.1 hz]; omega))
     obtain ⟨w2,rfl⟩:∃ z,z=wB:=⟨_,rfl⟩
     rw [← List.append_nil (_::_::ent a7 92 f7)] at HB
     have H:=Ctx.lend (L1:=_::_::ent a7 92 f7) (L2:=[]) HB
     obtain ⟨SS,hSS⟩:∃ SS,SS=((b11,Bl 92 (Bv ed))::(b6,Bl 28 [.int .i64 ((rs.length:Int)+1),.slice a7 i c7])::ent a7 92 f7).map (·.1):=⟨_,rfl⟩
     rw [← hSS] at H
     refine Au (Aw (Ah rfl BU rfl (AA rfl CI rfl H at1 rfl (Bh rfl DX BC rfl H at0 rfl (DC _ (.agg _) rfl Ce BC DH rfl (by decide) (by decide) rfl rfl rfl H ?_)))))
     rintro b43 w - H
     refine DM (L:=[_,_]) rfl Ce Ce BC Wl DH rfl (by decide) rfl rfl H O7 rfl (Dk ed) (by omega) ?_
     rintro a' c' full' w H O
     refine Ah rfl BU rfl (Cj (.slice _ _ _) rfl Aab rfl rfl rfl H at1 (by (simp; done)) ?_)
     rintro w H
     refine Ab (A5 ?_)
     rw [hSS] at H
     have HE:=H.ext
     have HH:=Ctx.back HB H
     rw [List.append_nil] at HH
     refine ⟨_,⟨a',c',full',rfl,HH.tail,by rw [List.take_add_one,hed,List.flatMap_append]; exact O,fun y hy=>?_⟩,fun y hy=>?_,_,HE,fun y hy=>?_⟩
     ·obtain ⟨z,hz,rfl⟩:=List.mem_map.1 hy
      rcases H.own z (List.mem_cons_of_mem _ hz) with h | h
      ·rcases List.mem_cons.1 h with h | h
       ·dsimp only at h; omega
       ·exact hne _ h
      ·have:=hxB.size; have:=H.ext.size; omega
     ·obtain ⟨z,hz,rfl⟩:=List.mem_map.1 hy
      rcases H.own z (List.mem_cons_of_mem _ hz) with h | h
      ·rcases List.mem_cons.1 h with h | h
       ·exact .inr (by dsimp only at h; omega)
       ·exact .inl h
      ·exact .inr (by have:=hxB.size; omega)
     ·rcases List.mem_cons.1 hy with h | h
      ·exact .inr (by dsimp only at h; omega)
      ·exact .inl h
    ·rintro M w ⟨a7,c7,f7,rfl,HJ,O7,hne⟩ hD
     rw [List.length_map,← hes] at HJ O7 hne
     rw [List.take_length] at O7
     have H:=HJ
     obtain ⟨w1,rfl⟩:∃ z,z=w:=⟨_,rfl⟩
     rw [← List.append_nil (_::ent a7 92 f7)] at HJ
     have H:=Ctx.lend (L1:=_::ent a7 92 f7) (L2:=[]) HJ
     obtain ⟨SS,hSS⟩:∃ SS,SS=((b6,Bl 28 [.int .i64 ((rs.length:Int)+1),.slice a7 es.length c7])::ent a7 92 f7).map (·.1):=⟨_,rfl⟩
     rw [← hSS] at H hne
     have hDn:ws.heap.size∉SS:=fun h=>(hne _ h).1 rfl
     refine A5 (Aa (Ag (Bh rfl Cu Ci rfl H at0 rfl (An rfl rfl (BD rfl Ci rfl rfl rfl (by simp [Bz]) H at0 rfl ?_)))))
     rintro w H
     refine AJ rfl rfl (Af rfl rfl (Ab (Aa (A9 (QI rfl rfl rfl rfl ?_)))))
     refine Gd (H.ext.to hD hDn) rfl fun wF hxF=>?_
     rw [hSS] at H
     have HH:=Ctx.back HJ H
     rw [List.append_nil] at HH
     rw [hSS] at hne
     have HF:=HH.step hxF (fun y hy h=>(hne _ (List.mem_map_of_mem (f:=(·.1)) hy)).1 (List.mem_singleton.1 h)) (fun z hz => .inr (by rw [List.mem_singleton.1 hz]; omega))
     have hown:∀ y∈((b6,Bl 28 [.int .i64 ((rs.length:Int)+1),.slice a7 es.length c7])::ent a7 92 f7),w0.heap.size≤y.1:=fun y hy=>by
      rcases HF.own y hy with h | h
      ·rw [List.mem_singleton.1 h]; exact hb60
      ·have:=hx5.size; omega
     have hxx:=hx5.then HF.ext fun x hx => .inr (by rw [List.mem_singleton.1 hx]; exact hb60)
     refine ⟨_,ET Cu Ci rfl (fun j v hv=>by rw [Ay (HF.get at0),Nat.zero_add]; exact hv),hxx,.inr ⟨by rw [← hbb]; exact h1,a7,es.length,c7,.slice a2 os.length c2,rfl,?_,?_⟩⟩
     ·rw [← hos,← hes]
      refine ⟨a7,c7,rfl,O7.le,OS.rd O7 (fun x hx=>HF.blk x (List.mem_cons_of_mem _ hx)) (fun _ _=>rfl) (by decide),fun hne'=>?_⟩
      obtain ⟨q,rfl⟩:=O7.form (List.length_pos_iff.2 hne')
      exact hown (q,Bl 92 f7) (List.mem_cons_of_mem _ (List.mem_singleton.2 rfl))
     ·rw [← hos]
      have hd4:os.map Du.id≠[]→w4.heap.size≤(adr a2).block:=hRIn
      refine ⟨a2,c2,by rw [List.length_map],by rw [List.length_map]; exact O.le,RI0.ext' HF.ext (fun hne'=>?_),fun hne'=>?_⟩
      ·have:=hRIn hne'
       rw [List.mem_singleton]; omega
      ·have:=hRIn hne'
       omega
end Go.Proofs.YtapphbmlkdhnmaaGreat

/- Nets, as the reference has them: Right, Within. -/
namespace Go.Proofs.YtapphbmlkdhnmaaGreat
open Go.GV
attribute [local irreducible] A2 W Wq Wt

set_option maxRecDepth 20000 in
set_option maxHeartbeats 4000000 in
theorem GG (N:Int) (a:Option Addr) (n c:Nat) (es:List Ed) (w:World) (R:Rd w a 4 Bv es) (hn:es.length=n) (hn2:n≤1000000):Ret Tryz.prog 63 #[CG N a n c] w fun v w'=>v = .bool (BV N es)∧Ext [] w w':=by
 subst hn
 obtain ⟨w0,rfl⟩:∃ w0,w0=w:=⟨_,rfl⟩
 have H:=Ctx.start w0 []
 refine A1 (fn:=Tryz.f63) Tryz.func63 rfl [CG N a es.length c] rfl (by kernel_rfl) ?_
 refine Ag (Bs rfl [.int .i64 N,.slice a es.length c] (.agg _) rfl rfl H ?_)
 rintro b1 w - H
 refine Ai rfl rfl (Ab (Aa (Aq (Ag (B5 (α:=Unit) 1048512 (fun _=>[(19,.bool (!((decide (1≤N) && decide (N≤40)) && decide (es.length≤200))))]) (fun _ w'=>Ctx w0 [] w' [(b1,Bl 28 [.int .i64 N,.slice a es.length c])]) rfl ?_ ?_)))))
 ·refine Ah rfl Dn rfl (AA rfl BH rfl H at0 rfl (AN rfl rfl rfl (Ak rfl rfl (A8 9 rfl ?_ ?_))))
  ·intro h1
   replace h1:=AF h1
   refine Ae rfl (Ae rfl (Ae rfl (Am rfl rfl (.bool _) rfl (Ak rfl rfl (Ae rfl (Ae rfl (Ae rfl (Ae rfl (Am rfl rfl (.bool _) rfl ?_)))))))))
   refine Ab ?_
   exact ⟨rfl,(),rfl,⟨congrArg Value.bool (by rw [Bool.eq_iff_iff]; simp_all; try omega),trivial⟩,H⟩
  ·intro h2
   replace h2:=AG h2
   refine Ah rfl Dn rfl (AA rfl BH rfl H at0 rfl (C0 rfl rfl rfl (A3 rfl rfl (.bool _) rfl (Ak rfl rfl (A8 14 rfl ?_ ?_)))))
   ·intro h3
    replace h3:=AF h3
    refine Ae rfl (Ae rfl (Ae rfl (Ae rfl (Am rfl rfl (.bool _) rfl (Ab ?_)))))
    exact ⟨rfl,(),rfl,⟨congrArg Value.bool (by rw [Bool.eq_iff_iff]; simp_all; try omega),trivial⟩,H⟩
   ·intro h4
    replace h4:=AG h4
    refine Ah rfl BU rfl (AA rfl CI rfl H at0 rfl (AU rfl Ce rfl (C0 rfl rfl rfl (A3 rfl rfl (.bool _) rfl (Ab ?_)))))
    exact ⟨rfl,(),rfl,⟨congrArg Value.bool (by rw [Bool.eq_iff_iff]; simp_all; try omega),trivial⟩,H⟩
 rintro - j19 w H
 refine Ax _ rfl ?_ ?_
 ·intro h1
  replace h1:=Bp h1
  refine Ag (Ai rfl rfl (Ab (Aa (A9 (Al (AB (v:=(.bool _)) rfl rfl rfl ?_))))))
  exact ⟨congrArg Value.bool (by unfold BV; rw [← Bool.and_assoc,show ((decide (1≤N) && decide (N≤40)) && decide (es.length≤200))=false by simpa using h1]; rfl),H.ext⟩
 ·intro h1
  replace h1:=Bq h1
  have h1':((decide (1≤N) && decide (N≤40)) && decide (es.length≤200))=true:=by simpa using h1
  have hrN:BV N es=(es.all (D9 N) && decide (DI es≤4611686018427387904)):=by unfold BV; rw [← Bool.and_assoc,h1']; rfl
  refine Av (Aa (Ag (Af rfl rfl (Ab (Aa (Aq (Ag (Af rfl rfl (Ab (Aa (Au (Bi 2417851639229258348363836 (α:=Nat) (fun i=>[(3,.int .i64 ((DI (es.take i):Nat):Int)),(4,.int .i64 (i:Int))]) (fun i w'=>i≤es.length∧Ctx w0 [] w' [(b1,Bl 28 [.int .i64 N,.slice a es.length c])]∧DI (es.take i)≤4611686018427387904∧∀ (k:Nat) (e:Ed),k<i→es[k]? = some e→D9 N e=true) (fun i=>es.length - i) 0 rfl ?_ ?_ ?_))))))))))))
  ·exact ⟨rfl,rfl,trivial⟩
  ·exact ⟨Nat.zero_le _,H,Nat.zero_le _,fun k e h=>absurd h (Nat.not_lt_zero _)⟩
  ·rintro i j w ⟨hi,H,hpr,hb⟩
   refine Aq (Ag (Ad rfl rfl (Ah rfl BU rfl (AA rfl CI rfl H at0 rfl (AU rfl Ce rfl (AN rfl rfl rfl (Ab (Aa (Ax _ rfl ?_ ?_)))))))))
   ·intro h2
    replace h2:=AF h2
    obtain ⟨e,he⟩:=AC (l:=es) (i:=i) (by omega)
    have hps:=HM he
    have hpt:=HN es (i+1)
    refine Av (Aa (Aq (Au (Ag (Ah rfl BU rfl (AA rfl CI rfl H at0 rfl (Ad rfl rfl (AZ R rfl Ce BC rfl rfl (by omega) (by omega) (by rfl) ?_))))))))
    refine Cr _ rfl DX BC rfl rfl ((R.ext0 H.ext).row he rfl) ?_
    refine Bm rfl DH H ?_
    rintro b5 w - H
    refine BD rfl BC rfl rfl rfl (by exact Dk _) H at0 rfl ?_
    rintro w H
    refine Ab (Aa (Aq (Ag (B5 (α:=Unit) 18446744069414584320 (fun _=>[(63,.bool (!D9 N e))]) (fun _ w'=>Ctx w0 [] w' [(b5,Bl 92 (Bv e)),(b1,Bl 28 [.int .i64 N,.slice a es.length c])]) rfl ?_ ?_))))
    ·refine Bh rfl Cu Ci rfl H at1 rfl (Ah rfl Dp rfl (AA rfl BH rfl H at0 rfl (Ao rfl Wo (QG N a es.length c e.f _) rfl ?_)))
     rintro v w ⟨rfl,hx35⟩
     replace H:=H.call hx35
     refine Bu rfl rfl (Ak rfl rfl (A8 37 rfl ?_ ?_))
     ·intro h5
      replace h5:=Bp h5
      refine Ae rfl (Ae rfl (Ae rfl (Ae rfl (Ae rfl (Am rfl rfl (.bool _) rfl (Ak rfl rfl (Ae rfl (Ae rfl (Ae rfl ?_)))))))))
      refine Am rfl rfl (.bool _) rfl (Ak rfl rfl (Ae rfl (Ae rfl (Ae rfl (Am rfl rfl (.bool _) rfl (Ak rfl rfl (Ae rfl (Ae rfl (Ae rfl ?_)))))))))
      refine Am rfl rfl (.bool _) rfl (Ak rfl rfl (Ae rfl (Ae rfl (Ae rfl (Am rfl rfl (.bool _) rfl (Ab ?_))))))
      exact ⟨rfl,(),rfl,⟨congrArg Value.bool (by unfold D9; unfold Kk at *; unfold Gz; rw [Bool.eq_iff_iff]; simp_all; try omega),trivial⟩,H⟩
     ·intro h6
      replace h6:=Bq h6
      refine Bh rfl Cu Ci rfl H at1 rfl (Ah rfl Dz rfl (AA rfl BH rfl H at0 rfl (Ao rfl Wo (QG N a es.length c e.t _) rfl ?_)))
      rintro v w ⟨rfl,hx41⟩
      replace H:=H.call hx41
      refine Bu rfl rfl (A3 rfl rfl (.bool _) rfl (Ak rfl rfl (A8 44 rfl ?_ ?_)))
      ·intro h7
       replace h7:=Bp h7
       refine Ae rfl (Ae rfl (Ae rfl (Am rfl rfl (.bool _) rfl (Ak rfl rfl (Ae rfl (Ae rfl (Ae rfl (Am rfl rfl (.bool _) rfl (Ak rfl rfl ?_)))))))))
       refine Ae rfl (Ae rfl (Ae rfl (Am rfl rfl (.bool _) rfl (Ak rfl rfl (Ae rfl (Ae rfl (Ae rfl (Am rfl rfl (.bool _) rfl (Ab ?_)))))))))
       exact ⟨rfl,(),rfl,⟨congrArg Value.bool (by unfold D9; unfold Kk at *; unfold Gz; rw [Bool.eq_iff_iff]; simp_all; try omega),trivial⟩,H⟩
      ·intro h8
       replace h8:=Bq h8
       refine Ah rfl CU rfl (AA rfl Bw rfl H at0 rfl (AN rfl rfl rfl (A3 rfl rfl (.bool _) rfl (Ak rfl rfl (A8 49 rfl ?_ ?_)))))
       ·intro h9
        replace h9:=AF h9
        refine Ae rfl (Ae rfl (Ae rfl (Am rfl rfl (.bool _) rfl (Ak rfl rfl (Ae rfl (Ae rfl (Ae rfl (Am rfl rfl (.bool _) rfl (Ak rfl rfl ?_)))))))))
        refine Ae rfl (Ae rfl (Ae rfl (Am rfl rfl (.bool _) rfl (Ab ?_))))
        exact ⟨rfl,(),rfl,⟨congrArg Value.bool (by unfold D9; unfold Kk at *; unfold Gz; rw [Bool.eq_iff_iff]; simp_all; try omega),trivial⟩,H⟩
       ·intro h10
        replace h10:=AG h10
        refine Ah rfl CU rfl (AA rfl Bw rfl H at0 rfl (C0 rfl rfl rfl (A3 rfl rfl (.bool _) rfl (Ak rfl rfl (A8 54 rfl ?_ ?_)))))
        ·intro h11
         replace h11:=AF h11
         refine Ae rfl (Ae rfl (Ae rfl (Am rfl rfl (.bool _) rfl (Ak rfl rfl (Ae rfl (Ae rfl (Ae rfl (Am rfl rfl (.bool _) rfl (Ab ?_)))))))))
         exact ⟨rfl,(),rfl,⟨congrArg Value.bool (by unfold D9; unfold Kk at *; unfold Gz; rw [Bool.eq_iff_iff]; simp_all; try omega),trivial⟩,H⟩
        ·intro h12
         replace h12:=AG h12
         refine Ah rfl Dq rfl (AA rfl Bw rfl H at0 rfl (AN rfl rfl rfl (A3 rfl rfl (.bool _) rfl (Ak rfl rfl (A8 59 rfl ?_ ?_)))))
         ·intro h13
          replace h13:=AF h13
          refine Ae rfl (Ae rfl (Ae rfl (Am rfl rfl (.bool _) rfl (Ab ?_))))
          exact ⟨rfl,(),rfl,⟨congrArg Value.bool (by unfold D9; unfold Kk at *; unfold Gz; rw [Bool.eq_iff_iff]; simp_all; try omega),trivial⟩,H⟩
         ·intro h14
          replace h14:=AG h14
          refine Ah rfl Dq rfl (AA rfl Bw rfl H at0 rfl (C0 rfl rfl rfl (A3 rfl rfl (.bool _) rfl (Ab ?_))))
          exact ⟨rfl,(),rfl,⟨congrArg Value.bool (by unfold D9; unfold Kk at *; unfold Gz; rw [Bool.eq_iff_iff]; simp_all; try omega),trivial⟩,H⟩
    rintro - j63 w H
    refine Ax _ rfl ?_ ?_
    ·intro h3
     replace h3:=Bp h3
     refine Ag (Ai rfl rfl (Ab (Aa (A9 (Al (A4 (Al (Al (A4 (Al (AB (v:=(.bool _)) rfl rfl rfl ?_)))))))))))
     exact ⟨congrArg Value.bool (by rw [hrN,D5 he (by simpa using h3)]; rfl),H.ext⟩
    ·intro h3
     replace h3:=Bq h3
     have h3':D9 N e=true:=by simpa using h3
     obtain ⟨-,-,-,-,q1,q2,q3,q4⟩:=CN h3'
     obtain ⟨cp,hcp⟩:∃ cp:Nat,e.cap=(cp:Int):=⟨e.cap.toNat,by omega⟩
     have hpe:EG e=cp*e.cost.natAbs:=by unfold EG; rw [hcp,Int.toNat_natCast]
     have hpm:EG e≤4503599627370496*1000:=by rw [hpe]; exact Nat.mul_le_mul (by omega) (by omega)
     have hmx:e.cap*max e.cost (-e.cost)=((EG e:Nat):Int):=by
      rw [hpe,hcp,Int.natCast_mul]
      congr 1
      omega
     refine Av (Aa (Ag (Ad rfl rfl (Ah rfl CU rfl (AA rfl Bw rfl H at0 rfl (Ah rfl Dq rfl (AA rfl Bw rfl H at0 rfl (Ah rfl Dq rfl (AA rfl Bw rfl H at0 rfl (EN rfl rfl (by omega) (by omega) ?_))))))))))
     refine Lt rfl rfl rfl ?_
     refine Cf rfl rfl rfl (by rw [hmx]; omega) (by rw [hmx]; omega) ?_
     rw [hmx]
     refine Ap rfl rfl rfl (by omega) (by omega) ?_
     rw [← Int.natCast_add,← hps]
     refine Af rfl rfl (Ab (Aa (Ag (B5 (α:=Unit) 2380072707366301187702784 (fun _=>[(80,.bool (!decide (DI (es.take (i+1))≤4611686018427387904)))]) (fun _ w'=>Ctx w0 [] w' [(b5,Bl 92 (Bv e)),(b1,Bl 28 [.int .i64 N,.slice a es.length c])]) rfl ?_ ?_))))
     ·refine Ad rfl rfl (AN rfl rfl rfl (Ak rfl rfl (A8 77 rfl ?_ ?_)))
      ·intro h15
       replace h15:=AF h15
       refine Ae rfl (Ae rfl (Am rfl rfl (.bool _) rfl (Ab ?_)))
       exact ⟨rfl,(),rfl,⟨congrArg Value.bool (by rw [Bool.eq_iff_iff]; simp_all; try omega),trivial⟩,H⟩
      ·intro h16
       replace h16:=AG h16
       refine Ad rfl rfl (C0 rfl rfl rfl (A3 rfl rfl (.bool _) rfl (Ab ?_)))
       exact ⟨rfl,(),rfl,⟨congrArg Value.bool (by rw [Bool.eq_iff_iff]; simp_all; try omega),trivial⟩,H⟩
     rintro - j80 w H
     refine Ax _ rfl ?_ ?_
     ·intro h4
      replace h4:=Bp h4
      refine Ag (Ai rfl rfl (Ab (Aa (A9 (A4 (Al (Al (A4 (Al (AB (v:=(.bool _)) rfl rfl rfl ?_))))))))))
      have h4':¬ DI (es.take (i+1))≤4611686018427387904:=by simpa using h4
      exact ⟨congrArg Value.bool (by rw [hrN,decide_eq_false (show ¬ DI es≤4611686018427387904 by omega),Bool.and_false]),H.ext⟩
     ·intro h4
      replace h4:=Bq h4
      have h4':DI (es.take (i+1))≤4611686018427387904:=by simpa using h4
      refine Av (A5 (Aa (Aw (Ad rfl rfl (Ap rfl rfl rfl (by omega) (by omega) ?_)))))
      refine Af rfl rfl (Ab (Aa ?_))
      refine ⟨i+1,rfl,⟨rfl,rfl,trivial⟩,⟨by omega,H.tail,h4',fun k y hk hy=>?_⟩,by omega⟩
      rcases Nat.lt_or_ge k i with h7 | h7
      ·exact hb k y h7 hy
      ·obtain rfl:k=i:=by omega
       rw [he] at hy
       cases hy
       exact h3'
   ·intro h2
    replace h2:=AG h2
    refine Bd (Aj (Aj (AD (Aa (Ag (Ai rfl rfl (Ab (Aa (A9 (AB (v:=(.bool _)) rfl rfl rfl ?_))))))))))
    rw [List.take_of_length_le (by omega)] at hpr
    exact ⟨congrArg Value.bool (by rw [hrN,E8 fun k x hk hx=>hb k x (by omega) hx,decide_eq_true hpr]; rfl),H.ext⟩
set_option maxRecDepth 20000 in
set_option maxHeartbeats 4000000 in
theorem HW (N:Int) (a b:Option Addr) (n c m d:Nat) (es:List Ed) (fl:List Int) (w:World) (R:Rd w a 4 Bv es) (hn:es.length=n) (hn2:n≤1000000) (Rf:Rd w b 1 I1 fl) (hm:fl.length=m) (hm2:m≤1000000) :
  Ret Tryz.prog 125 #[CG N a n c,.slice b m d] w fun v w'=>v = .bool (B1 N es fl)∧Ext [] w w':=by
 subst hn hm
 obtain ⟨w0,rfl⟩:∃ w0,w0=w:=⟨_,rfl⟩
 have H:=Ctx.start w0 []
 refine A1 (fn:=Tryz.f125) Tryz.func125 rfl [CG N a es.length c,.slice b fl.length d] rfl (by kernel_rfl) ?_
 refine Ag (Bs rfl [.int .i64 N,.slice a es.length c] (.agg _) rfl rfl H ?_)
 rintro b2 w - H
 refine Ai rfl rfl (Ab (Aa (Aq (Ag (B5 (α:=Unit) 131008 (fun _=>[(16,.bool (!(decide (fl.length=es.length) && BV N es)))]) (fun _ w'=>Ctx w0 [] w' [(b2,Bl 28 [.int .i64 N,.slice a es.length c])]) rfl ?_ ?_)))))
 ·refine Bh rfl Cu Ci rfl H at0 rfl (Ao rfl T5 (GG N a es.length c es _ (R.ext0 H.ext) rfl hn2) rfl ?_)
  rintro v w ⟨rfl,hx7⟩
  replace H:=H.call hx7
  refine Bu rfl rfl (Ak rfl rfl (A8 9 rfl ?_ ?_))
  ·intro h1
   replace h1:=Bp h1
   refine Ae rfl (Ae rfl (Ae rfl (Ae rfl (Ae rfl (Ae rfl (Am rfl rfl (.bool _) rfl (Ab ?_)))))))
   exact ⟨rfl,(),rfl,⟨congrArg Value.bool (by rw [Bool.eq_iff_iff]; simp_all; try omega),trivial⟩,H⟩
  ·intro h2
   replace h2:=Bq h2
   refine An rfl rfl (AU rfl AR rfl (Ah rfl BU rfl (AA rfl CI rfl H at0 rfl (AU rfl Ce rfl (CH rfl rfl rfl (A3 rfl rfl (.bool _) rfl (Ab ?_)))))))
   exact ⟨rfl,(),rfl,⟨congrArg Value.bool (by rw [Bool.eq_iff_iff]; simp_all; try omega),trivial⟩,H⟩
 rintro - j16 w H
 refine Ax _ rfl ?_ ?_
 ·intro h1
  replace h1:=Bp h1
  refine Ag (Ai rfl rfl (Ab (Aa (A9 (Al (AB (v:=(.bool _)) rfl rfl rfl ?_))))))
  exact ⟨congrArg Value.bool (by unfold B1; rw [show (decide (fl.length=es.length) && BV N es)=false by simpa using h1]; rfl),H.ext⟩
 ·intro h1
  replace h1:=Bq h1
  have h1':(decide (fl.length=es.length) && BV N es)=true:=by simpa using h1
  have hw:B1 N es fl=(List.zipWith inB es fl).all id:=by unfold B1; rw [h1']; rfl
  have hle:fl.length=es.length:=by simp only [Bool.and_eq_true,decide_eq_true_eq] at h1'; exact h1'.1
  refine Av (Aa (Aq (Ag (Af rfl rfl (Ab (Aa (Au (Bi 2199023124528 (α:=Nat) (fun i=>[(5,.int .i64 (i:Int))]) (fun i w'=>i≤fl.length∧Ctx w0 [] w' [(b2,Bl 28 [.int .i64 N,.slice a es.length c])]∧∀ (k:Nat) (e:Ed) (x:Int),k<i→es[k]? = some e→fl[k]? = some x→inB e x=true) (fun i=>fl.length - i) 0 rfl ?_ ?_ ?_))))))))
  ·exact ⟨rfl,trivial⟩
  ·exact ⟨Nat.zero_le _,H,fun k e x h=>absurd h (Nat.not_lt_zero _)⟩
  ·rintro i j w ⟨hi,H,hb⟩
   refine Aq (Ag (Ad rfl rfl (An rfl rfl (AU rfl AR rfl (AN rfl rfl rfl (Ab (Aa (Ax _ rfl ?_ ?_))))))))
   ·intro h2
    replace h2:=AF h2
    obtain ⟨e,he⟩:=AC (l:=es) (i:=i) (by omega)
    obtain ⟨x,hx⟩:=AC (l:=fl) (i:=i) (by omega)
    have hnext:inB e x=true→∀ (k:Nat) (f:Ed) (y:Int),k<i+1→es[k]? = some f→fl[k]? = some y→inB f y=true:=fun h3 k f y hk hf hy=>by
     rcases Nat.lt_or_ge k i with h7 | h7
     ·exact hb k f y h7 hf hy
     ·obtain rfl:k=i:=by omega
      rw [he] at hf; rw [hx] at hy
      cases hf; cases hy
      exact h3
    have hbad:inB e x=false→B1 N es fl=false:=fun h3=>by rw [hw,D5 (JD he hx) (show id (inB e x)=false from h3)]
    have hxf:=hx
    refine Av (Aa (Aq (Au (CZ [([0,1,2,3,4,5,6,7,8,9,10,11,12,13,14,15,16],17)] (fun z=>Ext [] w0 z∧z.heap[b2]? = some (Bl 28 [.int .i64 N,.slice a es.length c])) [] B3 (by kernel_rfl) (⟨H.drew.ext,H.drew.get at0⟩) ?_))))
    refine Ba rfl rfl ?_
    refine Bo rfl rfl (AO rfl rfl (CL Rf rfl AR B2 rfl rfl (by omega) (by omega) (by rfl) ?_))
    refine Ck rfl Bw rfl (fun _ hx=>((Rf.ext0 hx.1).fld hxf rfl (j:=0) rfl)) ?_
    refine ZQ rfl rfl rfl (OK rfl rfl (Mf 28 rfl ?_ ?_))
    ·intro g1
     replace g1:=AF g1
     refine DV rfl (DV rfl (DV rfl (DV rfl (DV rfl (DV rfl (DV rfl (DV rfl (DV rfl (DV rfl ?_)))))))))
     refine DV rfl (BJ ?_)
     replace H:=H.drew
     refine Am rfl rfl (.bool _) rfl (Ab (CX (⟨H.ext,H.get at0⟩) (Ch (CM rfl (Ag (Ai rfl rfl (Ab (Aa (A9 (A4 (Al (Al (A4 (Al (AB (v:=(.bool _)) rfl rfl rfl ?_)))))))))))))))
     exact ⟨congrArg Value.bool (hbad (by unfold inB; rw [decide_eq_false (show ¬ 0≤x by omega)]; rfl)).symm,H.ext⟩
    ·intro g1
     replace g1:=AG g1
     refine Bo rfl rfl (AO rfl rfl (CL Rf rfl AR B2 rfl rfl (by omega) (by omega) (by rfl) ?_))
     refine Ck rfl Bw rfl (fun _ hx=>((Rf.ext0 hx.1).fld hxf rfl (j:=0) rfl)) ?_
     refine AV rfl BU rfl (Ck rfl CI rfl (fun _ hx=>(by rw [Ay (hx.2)]; rfl)) ?_)
     refine AO rfl rfl (CL R rfl Ce BC rfl rfl (by omega) (by omega) (by rfl) ?_)
     refine AV rfl CU rfl (Ck rfl Bw rfl (fun _ hx=>((R.ext0 hx.1).fld he rfl (j:=2) rfl)) ?_)
     refine ZR rfl rfl rfl (BJ ?_)
     replace H:=H.drew
     refine A3 rfl rfl (.bool _) rfl (Ab (CX (⟨H.ext,H.get at0⟩) (Ch (Ax _ rfl ?_ ?_))))
     ·intro g2
      replace g2:=AF g2
      refine Ag (Ai rfl rfl (Ab (Aa (A9 (A4 (Al (Al (A4 (Al (AB (v:=(.bool _)) rfl rfl rfl ?_))))))))))
      exact ⟨congrArg Value.bool (hbad (by unfold inB; rw [decide_eq_false (show ¬ x≤e.cap by omega),Bool.and_false])).symm,H.ext⟩
     ·intro g2
      replace g2:=AG g2
      refine Av (A5 (Aa (Aw (Ad rfl rfl (Ap rfl rfl rfl (by omega) (by omega) ?_)))))
      refine Af rfl rfl (Ab (Aa ?_))
      exact ⟨i+1,rfl,⟨rfl,trivial⟩,⟨by omega,H,hnext (by unfold inB; rw [decide_eq_true (show 0≤x by omega),decide_eq_true (show x≤e.cap by omega)]; rfl)⟩,by omega⟩
   ·intro h2
    replace h2:=AG h2
    refine Bd (Aj (Aj (AD (Aa (Ag (Ai rfl rfl (Ab (Aa (A9 (AB (v:=(.bool _)) rfl rfl rfl ?_))))))))))
    refine ⟨congrArg Value.bool ?_,H.ext⟩
    rw [hw,E8 fun k x hk hx=>?_]
    rw [List.length_zipWith] at hk
    obtain ⟨e,he⟩:=AC (l:=es) (i:=k) (by omega)
    obtain ⟨y,hy⟩:=AC (l:=fl) (i:=k) (by omega)
    rw [JD he hy] at hx
    cases hx
    exact hb k e y (by omega) he hy
end Go.Proofs.YtapphbmlkdhnmaaGreat

/- Flows, as the reference has them: Over, Flows. -/
namespace Go.Proofs.YtapphbmlkdhnmaaGreat
open Go.GV
attribute [local irreducible] A2 W Wq Wt

/-- What is over at the first nodes. -/
def ovI (g:Gr) (x:Nat→Int) (v i q:Nat):Int:=if q<v then B0 g x q else if q=v then E7 g x i v else 0
theorem X9 (g:Gr) (x:Nat→Int) (q:Nat):ovI g x 0 0 q=0:=by
 unfold ovI
 rw [if_neg (by omega)]
 split
 ·rfl
 ·rfl
theorem Z4 (g:Gr) (x:Nat→Int) (v q:Nat):ovI g x v g.E q=ovI g x (v+1) 0 q:=by
 unfold ovI
 by_cases h:q<v
 ·rw [if_pos h,if_pos (by omega)]
 ·rw [if_neg h]
  by_cases h2:q=v
  ·subst h2
   rw [if_pos rfl,if_pos (by omega)]; rfl
  ·rw [if_neg h2,if_neg (by omega)]
   split <;> rfl
theorem Pv (g:Gr) (x:Nat→Int) (v i:Nat):ovI g x v i v=E7 g x i v:=by unfold ovI; rw [if_neg (by omega),if_pos rfl]
theorem XA (g:Gr) (x:Nat→Int) (v i j:Nat) {q:Nat} (h:q≠v):ovI g x v i q=ovI g x v j q:=by unfold ovI; rw [if_neg h,if_neg h]
set_option maxRecDepth 20000 in
set_option maxHeartbeats 8000000 in
theorem SK (N:Int) (a b:Option Addr) (n c m d:Nat) (es:List Ed) (fl:List Int) (w:World) (R:Rd w a 4 Bv es) (hn:es.length=n) (hn2:n≤1000000) (Rf:Rd w b 1 I1 fl) (hm:fl.length=m) (hm2:m≤1000000) (hwi:B1 N es fl=true) :
  Ret Tryz.prog 126 #[CG N a n c,.slice b m d] w fun v w'=>∃ b',v = .slice (some ⟨b',0,none⟩) N.toNat N.toNat∧Ctx w [] w' [(b',Bl 2 (B4 (B0 (grE N es) (flE fl)) N.toNat))]:=by
 subst hn hm
 obtain ⟨w0,rfl⟩:∃ w0,w0=w:=⟨_,rfl⟩
 have H:=Ctx.start w0 []
 obtain ⟨hl,hr,hin⟩:=BE hwi
 obtain ⟨h1,h40,hE,hall,-⟩:=BR hr
 obtain ⟨nn,hnn⟩:∃ nn:Nat,N=(nn:Int):=⟨N.toNat,by omega⟩
 obtain ⟨g,hg⟩:∃ g,g=grE N es:=⟨_,rfl⟩
 obtain ⟨x,hx⟩:∃ x,x=flE fl:=⟨_,rfl⟩
 have hgE:g.E=es.length:=by rw [hg]; rfl
 rw [← hg,← hx]
 subst hnn
 rw [show ((nn:Int)).toNat=nn from rfl]
 have hxb:∀ j,j<es.length→0≤x j∧x j≤4503599627370496:=fun j hj=>by
  obtain ⟨e',he'⟩:=AC (l:=es) (i:=j) hj
  obtain ⟨y,hy⟩:=AC (l:=fl) (i:=j) (by omega)
  have h3:=hin j e' y he' hy
  have h4:=CN (hall e' (List.mem_of_getElem? he'))
  rw [hx]
  show 0≤fl.getD j 0∧fl.getD j 0≤4503599627370496
  rw [Bn hy]
  omega
 refine A1 (fn:=Tryz.f126) Tryz.func126 rfl [CG (nn:Int) a es.length c,.slice b fl.length d] rfl (by kernel_rfl) ?_
 refine Ag (Bs rfl [.int .i64 (nn:Int),.slice a es.length c] (.agg _) rfl rfl H ?_)
 rintro b2 w - H
 refine AJ rfl rfl (Ab (Aa (Aq (Ag (Bh rfl Cu Ci rfl H at0 rfl (An rfl rfl (Ao rfl Sf (HW (nn:Int) a b es.length c fl.length d es fl _ (R.ext0 H.ext) rfl hn2 (Rf.ext0 H.ext) rfl hm2) rfl ?_)))))))
 rintro v w ⟨rfl,hx10⟩
 replace H:=H.call hx10
 rw [hwi]
 refine Bu rfl rfl (Ab (Aa (Ax _ rfl ?_ ?_)))
 ·intro g1
  replace g1:=Bp g1
  cases g1
 ·intro g1
  replace g1:=Bq g1
  refine Av (Aa (Ag (Ah rfl Dn rfl (AA rfl BH rfl H at0 rfl (FX rfl AR B2 OV GP rfl rfl (by omega) (by omega) (by omega) (by omega) H ?_)))))
  rintro b14 w - H
  rw [show ((nn:Int)).toNat=nn from rfl,Ex] at H
  refine AJ rfl rfl (Ab (Aa (Aq (Ag (Af rfl rfl (Ab (Aa (Au (Bi 147573952589676380352 (α:=Nat) (fun v=>[(6,.int .i64 (v:Int))]) (fun v w'=>v≤nn∧Ctx w0 [] w' [(b14,Bl 2 (B4 (ovI g x v 0) nn)),(b2,Bl 28 [.int .i64 (nn:Int),.slice a es.length c])]) (fun v=>nn - v) 0 rfl ?_ ?_ ?_)))))))))
  ·exact ⟨rfl,trivial⟩
  ·refine ⟨Nat.zero_le _,?_⟩
   rw [show B4 (ovI g x 0 0) nn=B4 (fun _=>0) nn from List.map_congr_left fun q _=>by rw [X9]]
   exact H
  ·clear H
   rintro v j6 w ⟨hv,H⟩
   refine Aq (Ag (Ad rfl rfl (Ah rfl Dn rfl (AA rfl BH rfl H at1 rfl (AN rfl rfl rfl (Ab (Aa (Ax _ rfl ?_ ?_))))))))
   ·intro g2
    replace g2:=AF g2
    refine Av (Aa (Aq (Au (Ag (Af rfl rfl (Ab (Aa (Au (Bi 147573952589674315904 (α:=Nat) (fun i=>[(7,.int .i64 (i:Int))]) (fun i w'=>i≤es.length∧Ctx w0 [] w' [(b14,Bl 2 (B4 (ovI g x v i) nn)),(b2,Bl 28 [.int .i64 (nn:Int),.slice a es.length c])]) (fun i=>es.length - i) 0 rfl ?_ ?_ ?_)))))))))
    ·exact ⟨rfl,trivial⟩
    ·exact ⟨Nat.zero_le _,H⟩
    ·clear H
     rintro i j7 w ⟨hi,H⟩
     refine Aq (Ag (Ad rfl rfl (An rfl rfl (AU rfl AR rfl (AN rfl rfl rfl (Ab (Aa (Ax _ rfl ?_ ?_))))))))
     ·intro g3
      replace g3:=AF g3
      obtain ⟨e,he⟩:=AC (l:=es) (i:=i) (by omega)
      obtain ⟨y,hy⟩:=AC (l:=fl) (i:=i) (by omega)
      have hxi:x i=y:=by rw [hx]; exact Bn hy
      obtain ⟨hf0,hfN,ht0,htN,-⟩:=CN (hall e (List.mem_of_getElem? he))
      have hgf:g.f i=e.f.toNat:=by rw [hg]; exact gr_f he
      have hgt:g.t i=e.t.toNat:=by rw [hg]; exact gr_t he
      have hbi:=I6 (g:=g) (x:=x) (c:=4503599627370496) v (k:=i) fun j hj=>hxb j (by omega)
      have hyb:=hxb i (by omega)
      rw [hxi] at hyb
      obtain ⟨z,hz⟩:∃ z,z=E7 g x i v+if e.t=(v:Int) then y else 0:=⟨_,rfl⟩
      have hzb : -(300*4503599627370496)≤z∧z≤300*4503599627370496:=by
       rw [hz]; split <;> omega
      have hst:E7 g x (i+1) v=z - if e.f=(v:Int) then y else 0:=by
       rw [NL,hgf,hgt,hxi,hz]
       by_cases h1:e.t=(v:Int)
       ·rw [Hj (show e.t.toNat=v by omega),if_pos h1]
        by_cases h2:e.f=(v:Int)
        ·rw [Hj (show e.f.toNat=v by omega),if_pos h2]; omega
        ·rw [GC (show ¬ e.f.toNat=v by omega),if_neg h2]; omega
       ·rw [GC (show ¬ e.t.toNat=v by omega),if_neg h1]
        by_cases h2:e.f=(v:Int)
        ·rw [Hj (show e.f.toNat=v by omega),if_pos h2]; omega
        ·rw [GC (show ¬ e.f.toNat=v by omega),if_neg h2]; omega
      refine Av (Aa (Aq (Au (Aq (Ag (Ah rfl BU rfl (AA rfl CI rfl H at1 rfl (Ad rfl rfl (AZ R rfl Ce BC rfl rfl (by omega) (by omega) (by rfl) ?_)))))))))
      refine Ah rfl Dz rfl (AX rfl BH rfl (((R.ext0 H.ext).fld he rfl (j:=1) rfl)) ?_)
      refine Ad rfl rfl (BX rfl rfl rfl (Ab (Aa (Em 140703128616960 (α:=Unit) (fun _=>[]) (fun _ w'=>Ctx w0 [] w' [(b14,Bl 2 (B4 (fun q=>if q=v then z else ovI g x v i q) nn)),(b2,Bl 28 [.int .i64 (nn:Int),.slice a es.length c])]) rfl ?_ ?_))))
      ·skip
       refine Ax _ rfl ?_ ?_
       ·intro g4
        replace g4:=AF g4
        refine Ff 12 B3 (by kernel_rfl) rfl rfl ?_
        refine BT rfl rfl (AM rfl rfl (BT rfl rfl (AM rfl rfl (AL rfl AR B2 rfl rfl (by omega) (by omega) ?_))))
        refine N8 v _ rfl Bw rfl (by rintro _ rfl; exact H.drew) at0 (by simp) (by omega) (congrArg (Value.int .i64) (Pv g x v i)) ?_
        refine BT rfl rfl (AM rfl rfl (BN Rf rfl AR B2 rfl rfl (by omega) (by omega) (by rfl) ?_))
        refine Cc rfl Bw rfl (by rintro _ rfl; exact (((Rf.ext0 H.drew.ext).fld hy rfl (j:=0) rfl))) ?_
        refine CE rfl rfl rfl (by omega) (by omega) ?_
        refine AL rfl AR B2 rfl rfl (by omega) (by omega) ?_
        refine BQ ?_
        replace H:=H.drew
        refine BP v (fun q => .int .i64 (if q=v then z else ovI g x v i q)) (.int _ _) rfl B2 rfl rfl rfl H at0 (by simp) (by omega) (by rw [if_pos rfl,hz,if_pos g4]) (fun q _ hq=>by rw [if_neg hq]) ?_
        rintro w H
        refine Ab (Aa ?_)
        exact ⟨(),rfl,trivial,H⟩
       ·intro g4
        replace g4:=AG g4
        refine Av (Aa ?_)
        refine ⟨(),rfl,trivial,?_⟩
        rw [show B4 (fun q=>if q=v then z else ovI g x v i q) nn=B4 (ovI g x v i) nn from List.map_congr_left fun q _=>by
         dsimp only
         split
         ·rename_i h; subst h; rw [Pv,hz,if_neg g4,Int.add_zero]
         ·rfl]
        exact H
      ·rintro - j34 w H
       refine Ag (Ah rfl BU rfl (AA rfl CI rfl H at1 rfl (Ad rfl rfl (AZ R rfl Ce BC rfl rfl (by omega) (by omega) (by rfl) ?_))))
       refine Ah rfl Dp rfl (AX rfl BH rfl (((R.ext0 H.ext).fld he rfl (j:=0) rfl)) ?_)
       refine Ad rfl rfl (BX rfl rfl rfl (Ab (Aa (Ax _ rfl ?_ ?_))))
       ·intro g5
        replace g5:=AF g5
        refine Ff 12 B3 (by kernel_rfl) rfl rfl ?_
        refine BT rfl rfl (AM rfl rfl (BT rfl rfl (AM rfl rfl (AL rfl AR B2 rfl rfl (by omega) (by omega) ?_))))
        refine N8 v _ rfl Bw rfl (by rintro _ rfl; exact H.drew) at0 (by simp) (by omega) (congrArg (Value.int .i64) (if_pos rfl)) ?_
        refine BT rfl rfl (AM rfl rfl (BN Rf rfl AR B2 rfl rfl (by omega) (by omega) (by rfl) ?_))
        refine Cc rfl Bw rfl (by rintro _ rfl; exact (((Rf.ext0 H.drew.ext).fld hy rfl (j:=0) rfl))) ?_
        refine CW rfl rfl rfl (by omega) (by omega) ?_
        refine AL rfl AR B2 rfl rfl (by omega) (by omega) ?_
        refine BQ ?_
        replace H:=H.drew
        refine BP v (fun q => .int .i64 (ovI g x v (i+1) q)) (.int _ _) rfl B2 rfl rfl rfl H at0 (by simp) (by omega) (by rw [Pv,hst,if_pos g5]) (fun q _ hq=>by dsimp only; rw [if_neg hq,XA g x v (i+1) i hq]) ?_
        rintro w H
        refine Ab (A5 (Aa (Aw (Ad rfl rfl (Ap rfl rfl rfl (by omega) (by omega) ?_)))))
        refine Af rfl rfl (Ab (Aa ?_))
        exact ⟨i+1,rfl,⟨rfl,trivial⟩,⟨by omega,H⟩,by omega⟩
       ·intro g5
        replace g5:=AG g5
        refine Av (A5 (Aa (Aw (Ad rfl rfl (Ap rfl rfl rfl (by omega) (by omega) ?_)))))
        refine Af rfl rfl (Ab (Aa ?_))
        refine ⟨i+1,rfl,⟨rfl,trivial⟩,⟨by omega,?_⟩,by omega⟩
        rw [show B4 (ovI g x v (i+1)) nn=B4 (fun q=>if q=v then z else ovI g x v i q) nn from List.map_congr_left fun q _=>by
         dsimp only
         split
         ·rename_i h; subst h; rw [Pv,hst,if_neg g5,Int.sub_zero]
         ·rename_i h; rw [XA g x v (i+1) i h]]
        exact H
     ·intro g3
      replace g3:=AG g3
      refine Bd (Aj (Aj (AD (A5 (Aa (Aw (Ad rfl rfl (Ap rfl rfl rfl (by omega) (by omega) ?_))))))))
      refine Af rfl rfl (Ab (Aa ?_))
      obtain rfl:i=es.length:=by omega
      refine ⟨v+1,rfl,⟨rfl,trivial⟩,⟨by omega,?_⟩,by omega⟩
      rw [show B4 (ovI g x (v+1) 0) nn=B4 (ovI g x v es.length) nn from List.map_congr_left fun q _=>by rw [← Z4,hgE]]
      exact H
   ·intro g2
    replace g2:=AG g2
    refine Bd (Aj (Aj (AD (Aa (Ag (An rfl rfl (AJ rfl rfl (Ab (Aa (A9 (AB (v:=(.slice _ _ _)) rfl rfl rfl ?_)))))))))))
    obtain rfl:v=nn:=by omega
    rw [show B4 (ovI g x v 0) v=B4 (B0 g x) v from List.map_congr_left fun q hq=>by
     rw [List.mem_range] at hq
     unfold ovI
     rw [if_pos hq]] at H
    exact ⟨b14,rfl,H.left (L:=[_]) (L':=[_])⟩
set_option maxRecDepth 20000 in
set_option maxHeartbeats 2000000 in
theorem QJ (N:Int) (a b:Option Addr) (n c m d:Nat) (es:List Ed) (fl:List Int) (w:World) (R:Rd w a 4 Bv es) (hn:es.length=n) (hn2:n≤1000000) (Rf:Rd w b 1 I1 fl) (hm:fl.length=m) (hm2:m≤1000000) :
  Ret Tryz.prog 64 #[CG N a n c,.slice b m d] w fun v w'=>v = .bool (Er N es fl)∧Ext [] w w':=by
 subst hn hm
 obtain ⟨w0,rfl⟩:∃ w0,w0=w:=⟨_,rfl⟩
 have H:=Ctx.start w0 []
 obtain ⟨bw,hbw⟩:∃ bw,bw=B1 N es fl:=⟨_,rfl⟩
 refine A1 (fn:=Tryz.f64) Tryz.func64 rfl [CG N a es.length c,.slice b fl.length d] rfl (by kernel_rfl) ?_
 refine Ag (Bs rfl [.int .i64 N,.slice a es.length c] (.agg _) rfl rfl H ?_)
 rintro b2 w - H
 refine Ai rfl rfl (Ab (Aa (Aq (Ag (Bh rfl Cu Ci rfl H at0 rfl (An rfl rfl (Ao rfl Sf (HW N a b es.length c fl.length d es fl _ (R.ext0 H.ext) rfl hn2 (Rf.ext0 H.ext) rfl hm2) rfl ?_)))))))
 rintro v w ⟨rfl,hx9⟩
 replace H:=H.call hx9
 rw [← hbw]
 refine Bu rfl rfl (Ab (Aa (Ax _ rfl ?_ ?_)))
 ·intro h1
  replace h1:=Bp h1
  refine Ag (Ai rfl rfl (Ab (Aa (A9 (Al (AB (v:=(.bool _)) rfl rfl rfl ?_))))))
  exact ⟨congrArg Value.bool (by unfold Er; rw [← hbw,show bw=false by simpa using h1]; rfl),H.ext⟩
 ·intro h1
  replace h1:=Bq h1
  have h1':bw=true:=by simpa using h1
  have hw:B1 N es fl=true:=by rw [← hbw]; exact h1'
  have hf:Er N es fl=(Jt N es fl).all fun x=>decide (x=0):=by unfold Er; rw [hw]; rfl
  obtain ⟨h40a,h40,-⟩:=BR (BE hw).2.1
  obtain ⟨nn,hnn⟩:∃ nn:Nat,N=(nn:Int):=⟨N.toNat,by omega⟩
  have hov:Jt N es fl=tab (B0 (grE N es) (flE fl)) nn:=by rw [hnn]; rfl
  refine Av (Aa (Ag (Bh rfl Cu Ci rfl H at0 rfl (An rfl rfl (Ao rfl Abc (SK N a b es.length c fl.length d es fl _ (R.ext0 H.ext) rfl hn2 (Rf.ext0 H.ext) rfl hm2 hw) rfl ?_)))))
  rintro v w ⟨b',rfl,H13⟩
  replace H:=Ctx.back (L1:=[]) (L2:=[_]) H H13
  rw [show N.toNat=nn by omega] at H ⊢
  refine AJ rfl rfl (Ab (Aa (Aq (Ag (Af rfl rfl (Ab (Aa (Au ?_))))))))
  obtain ⟨z,hz⟩:∃ z,z=B0 (grE N es) (flE fl):=⟨_,rfl⟩
  rw [hf,hov,← hz]
  rw [← hz] at H
  have RT:Rd w (some ⟨b',0,none⟩) 1 I1 (tab z nn):=Ct (H.get at0)
  obtain ⟨w1,rfl⟩:∃ q,q=w:=⟨_,rfl⟩
  have hx1:=H.ext
  have H:=Ctx.start w1 []
  refine Bi 33538128 (α:=Nat) (fun i=>[(6,.int .i64 (i:Int))]) (fun i w'=>i≤nn∧Ctx w1 [] w' []∧∀ k,k<i→z k=0) (fun i=>nn - i) 0 rfl ?_ ?_ ?_
  ·exact ⟨rfl,trivial⟩
  ·exact ⟨Nat.zero_le _,H,fun k h=>absurd h (Nat.not_lt_zero _)⟩
  ·clear H
   rintro i j w ⟨hi,H,hb⟩
   refine Aq (Ag (Ad rfl rfl (An rfl rfl (AU rfl AR rfl (AN rfl rfl rfl (Ab (Aa (Ax _ rfl ?_ ?_))))))))
   ·intro h2
    replace h2:=AF h2
    refine Av (Aa (Aq (Au (Ag (An rfl rfl (Ad rfl rfl (Bb rfl AR B2 rfl rfl (by omega) (by omega) ?_)))))))
    refine AX rfl Bw rfl (((RT.ext0 H.ext).fld (BM (f:=z) (show i<nn by omega)) rfl (j:=0) rfl)) ?_
    refine CH rfl rfl rfl (Ab (Aa (Ax _ rfl ?_ ?_)))
    ·intro h3
     replace h3:=CO h3
     refine Ag (Ai rfl rfl (Ab (Aa (A9 (A4 (Al (Al (A4 (Al (AB (v:=(.bool _)) rfl rfl rfl ?_))))))))))
     exact ⟨congrArg Value.bool (D5 (BM (f:=z) (show i<nn by omega)) (decide_eq_false h3)).symm,hx1.trans H.ext⟩
    ·intro h3
     replace h3:=CP h3
     refine Av (A5 (Aa (Aw (Ad rfl rfl (Ap rfl rfl rfl (by omega) (by omega) ?_)))))
     refine Af rfl rfl (Ab (Aa ?_))
     refine ⟨i+1,rfl,⟨rfl,trivial⟩,⟨by omega,H,fun k hk=>?_⟩,by omega⟩
     rcases Nat.lt_or_ge k i with h7 | h7
     ·exact hb k h7
     ·obtain rfl:k=i:=by omega
      exact h3
   ·intro h2
    replace h2:=AG h2
    refine Bd (Aj (Aj (AD (Aa (Ag (Ai rfl rfl (Ab (Aa (A9 (AB (v:=(.bool _)) rfl rfl rfl ?_))))))))))
    have hin:i=nn:=by omega
    refine ⟨congrArg Value.bool (E8 fun k x hk hx=>?_).symm,hx1.trans H.ext⟩
    obtain ⟨h7,rfl⟩:=MA hx
    exact decide_eq_true (hb k (by omega))
end Go.Proofs.YtapphbmlkdhnmaaGreat

/- Arcs, and whether what flows is the best, as the reference has them. -/
namespace Go.Proofs.YtapphbmlkdhnmaaGreat
open Go.GV
attribute [local irreducible] A2 W Wq Wt

theorem Oc (N:Int) (a:Option Addr) (n c:Nat) (es:List Ed) (hn:es.length=n) (hb:n≤1000000) (k:Int) (w:World):Ret Tryz.prog 176 #[CG N a n c,.int .i64 k] w fun v w'=>v = .bool (Hi es k)∧Ext [] w w':=by
 subst hn
 obtain ⟨w0,rfl⟩:∃ w0,w0=w:=⟨_,rfl⟩
 have H:=Ctx.start w0 []
 refine A1 (fn:=Tryz.f176) Tryz.func176 rfl [CG N a es.length c,.int .i64 k] rfl (by kernel_rfl) ?_
 refine Ag (Bs rfl [.int .i64 N,.slice a es.length c] (.agg _) rfl rfl H ?_)
 rintro b2 w - H
 refine Ai rfl rfl (Ab (Aa (Ag (Ad rfl rfl (CD rfl rfl rfl (Ak rfl rfl (A8 7 rfl ?_ ?_)))))))
 ·intro h1
  replace h1:=AF h1
  refine Ad rfl rfl (Ah rfl BU rfl (AA rfl CI rfl H at0 rfl (AU rfl Ce rfl (Cf rfl rfl rfl (by omega) (by omega) ?_))))
  refine AN rfl rfl rfl (Am rfl rfl (.bool _) rfl (Ai rfl rfl (Ab (Aa (A9 (AB (v:=(.bool _)) rfl rfl rfl ?_))))))
  exact ⟨congrArg Value.bool (by unfold Hi; rw [Bool.eq_iff_iff]; simp_all; try omega),H.ext⟩
 ·intro h2
  replace h2:=AG h2
  refine Ae rfl (Ae rfl (Ae rfl (Ae rfl (Ae rfl (Ae rfl (A3 rfl rfl (.bool _) rfl (Ai rfl rfl (Ab (Aa (A9 (AB (v:=(.bool _)) rfl rfl rfl ?_)))))))))))
  exact ⟨congrArg Value.bool (by unfold Hi; rw [Bool.eq_iff_iff]; simp_all; try omega),H.ext⟩
theorem XB {es:List Ed} {k:Nat} (h:k<2*es.length):Hi es (k:Int)=true:=by unfold Hi; simp; omega
set_option maxRecDepth 20000 in
set_option maxHeartbeats 2000000 in
theorem SM (N:Int) (a:Option Addr) (n c:Nat) (es:List Ed) (w:World) (R:Rd w a 4 Bv es) (hn:es.length=n) (hb:n≤1000000) (k:Nat) {e:Ed} (he:es[k / 2]? = some e) (hr:BV N es=true):Ret Tryz.prog 177 #[CG N a n c,.int .i64 (k:Int)] w fun v w'=>v = .tuple #[.int .i64 (EL e k).1,.int .i64 (EL e k).2.1,.int .i64 (EL e k).2.2]∧Ext [] w w':=by
 subst hn
 obtain ⟨w0,rfl⟩:∃ w0,w0=w:=⟨_,rfl⟩
 have H:=Ctx.start w0 []
 have hk:=CB he
 have hco:=CN ((BR hr).2.2.2.1 e (List.mem_of_getElem? he))
 refine A1 (fn:=Tryz.f177) Tryz.func177 rfl [CG N a es.length c,.int .i64 (k:Int)] rfl (by kernel_rfl) ?_
 refine Ag (Bs rfl [.int .i64 N,.slice a es.length c] (.agg _) rfl rfl H ?_)
 rintro b2 w - H
 refine Af rfl rfl (Af rfl rfl (Af rfl rfl (Ab (Aa (Aq (Ag (B5 (α:=Unit) 130816 (fun _=>[(16,.bool (false))]) (fun _ w'=>Ctx w0 [] w' [(b2,Bl 28 [.int .i64 N,.slice a es.length c])]) rfl ?_ ?_)))))))
 ·refine Bh rfl Cu Ci rfl H at0 rfl (Ao rfl T5 (GG N a es.length c es _ (R.ext0 H.ext) rfl hb) rfl ?_)
  rintro v w ⟨rfl,hx9⟩
  replace H:=H.call hx9
  rw [hr]
  refine Bu rfl rfl (Ak rfl rfl (A8 11 rfl ?_ ?_))
  ·intro h1
   replace h1:=Bp h1
   refine Ae rfl (Ae rfl (Ae rfl (Ae rfl (Am rfl rfl (.bool _) rfl (Ab ?_)))))
   exact ⟨rfl,(),rfl,⟨congrArg Value.bool (by simp_all),trivial⟩,H⟩
  ·intro h2
   replace h2:=Bq h2
   refine Bh rfl Cu Ci rfl H at0 rfl (Ad rfl rfl (Ao rfl Wv (Oc N a es.length c es rfl hb (k:Int) _) rfl ?_))
   rintro v w ⟨rfl,hx14⟩
   replace H:=H.call hx14
   rw [XB (by omega)]
   refine Bu rfl rfl (A3 rfl rfl (.bool _) rfl (Ab ?_))
   exact ⟨rfl,(),rfl,⟨congrArg Value.bool (by rfl),trivial⟩,H⟩
 rintro - j16 w H
 refine Fg rfl (Av (Aa (Ag (Ah rfl BU rfl (AA rfl CI rfl H at0 rfl (Ad rfl rfl (GK rfl rfl rfl (by omega) (by omega) (show _≤(9223372036854775807:Int) by omega) ?_)))))))
 rw [show (k:Int) / 2=((k / 2:Nat):Int) by omega]
 refine AZ R rfl Ce BC rfl rfl (by omega) (by omega) (by rfl) ?_
 refine Cr _ rfl DX BC rfl rfl ((R.ext0 H.ext).row he rfl) ?_
 refine Bm rfl DH H ?_
 rintro b7 w - H
 refine BD rfl BC rfl rfl rfl (by exact Dk _) H at0 rfl ?_
 rintro w H
 refine Ab (Aa (Aq (Ag (Ad rfl rfl (RG rfl rfl rfl (by omega) (by omega) ?_)))))
 rw [show (k:Int) % 2=((k % 2:Nat):Int) by omega]
 refine BX rfl rfl rfl (Ab (Aa (Ax _ rfl ?_ ?_)))
 ·intro h1
  replace h1:=AF h1
  refine DS (fun x=>x=_) B3 (by kernel_rfl) rfl ?_
  refine A6 rfl Dp rfl (BZ rfl BH rfl (by rintro _ rfl; exact H.drew) at0 rfl ?_)
  refine A6 rfl Dz rfl (BZ rfl BH rfl (by rintro _ rfl; exact H.drew) at0 rfl ?_)
  refine A6 rfl Dq rfl (BZ rfl Bw rfl (by rintro _ rfl; exact H.drew) at0 rfl ?_)
  refine Co rfl rfl (Co rfl rfl (Co rfl rfl (BQ ?_)))
  rintro _ rfl
  replace H:=H.drew
  refine A9 (Al (DR (v1:=(.int _ _)) (v2:=(.int _ _)) (v3:=(.int _ _)) rfl rfl rfl rfl rfl ?_))
  exact ⟨by unfold EL; rw [if_neg (by omega)],H.ext⟩
 ·intro h1
  replace h1:=AG h1
  refine Av (Aa (DS (fun x=>x=_) B3 (by kernel_rfl) rfl ?_))
  refine A6 rfl Dz rfl (BZ rfl BH rfl (by rintro _ rfl; exact H.drew) at0 rfl ?_)
  refine A6 rfl Dp rfl (BZ rfl BH rfl (by rintro _ rfl; exact H.drew) at0 rfl ?_)
  refine A6 rfl Dq rfl (BZ rfl Bw rfl (by rintro _ rfl; exact H.drew) at0 rfl ?_)
  refine N7 rfl rfl (by omega) (by omega) ?_
  refine Co rfl rfl (Co rfl rfl (Co rfl rfl (BQ ?_)))
  rintro _ rfl
  replace H:=H.drew
  refine A9 (DR (v1:=(.int _ _)) (v2:=(.int _ _)) (v3:=(.int _ _)) rfl rfl rfl rfl rfl ?_)
  exact ⟨by unfold EL; rw [if_pos (by omega)],H.ext⟩
set_option maxRecDepth 20000 in
set_option maxHeartbeats 2000000 in
theorem SN (N:Int) (a b:Option Addr) (n c m d:Nat) (es:List Ed) (fl:List Int) (w:World) (R:Rd w a 4 Bv es) (hn:es.length=n) (hb:n≤1000000) (Rf:Rd w b 1 I1 fl) (hm:fl.length=m) (k:Nat) {e:Ed} {x:Int} (he:es[k / 2]? = some e) (hx:fl[k / 2]? = some x) (hw:B1 N es fl=true) :
  Ret Tryz.prog 127 #[CG N a n c,.slice b m d,.int .i64 (k:Int)] w fun v w'=>v = .int .i64 (I7 e x k)∧Ext [] w w':=by
 subst hn hm
 obtain ⟨w0,rfl⟩:∃ w0,w0=w:=⟨_,rfl⟩
 have H:=Ctx.start w0 []
 have hk:=CB he
 obtain ⟨hl,hr,hin⟩:=BE hw
 have hco:=CN ((BR hr).2.2.2.1 e (List.mem_of_getElem? he))
 have hxx:=hin _ e x he hx
 refine A1 (fn:=Tryz.f127) Tryz.func127 rfl [CG N a es.length c,.slice b fl.length d,.int .i64 (k:Int)] rfl (by kernel_rfl) ?_
 refine Ag (Bs rfl [.int .i64 N,.slice a es.length c] (.agg _) rfl rfl H ?_)
 rintro b3 w - H
 refine Af rfl rfl (Ab (Aa (Aq (Ag (B5 (α:=Unit) 130944 (fun _=>[(16,.bool (false))]) (fun _ w'=>Ctx w0 [] w' [(b3,Bl 28 [.int .i64 N,.slice a es.length c])]) rfl ?_ ?_)))))
 ·refine Bh rfl Cu Ci rfl H at0 rfl (An rfl rfl (Ao rfl Sf (HW N a b es.length c fl.length d es fl _ (R.ext0 H.ext) rfl hb (Rf.ext0 H.ext) rfl (by omega)) rfl ?_))
  rintro v w ⟨rfl,hx9⟩
  replace H:=H.call hx9
  rw [hw]
  refine Bu rfl rfl (Ak rfl rfl (A8 11 rfl ?_ ?_))
  ·intro h1
   replace h1:=Bp h1
   refine Ae rfl (Ae rfl (Ae rfl (Ae rfl (Am rfl rfl (.bool _) rfl (Ab ?_)))))
   exact ⟨rfl,(),rfl,⟨congrArg Value.bool (by simp_all),trivial⟩,H⟩
  ·intro h2
   replace h2:=Bq h2
   refine Bh rfl Cu Ci rfl H at0 rfl (Ad rfl rfl (Ao rfl Wv (Oc N a es.length c es rfl hb (k:Int) _) rfl ?_))
   rintro v w ⟨rfl,hx14⟩
   replace H:=H.call hx14
   rw [XB (by omega)]
   refine Bu rfl rfl (A3 rfl rfl (.bool _) rfl (Ab ?_))
   exact ⟨rfl,(),rfl,⟨congrArg Value.bool (by rfl),trivial⟩,H⟩
 rintro - j16 w H
 refine Fg rfl (Av (Aa (Aq (Ag (Ad rfl rfl (RG rfl rfl rfl (by omega) (by omega) ?_))))))
 rw [show (k:Int) % 2=((k % 2:Nat):Int) by omega]
 refine BX rfl rfl rfl (Ab (Aa (Ax _ rfl ?_ ?_)))
 ·intro h1
  replace h1:=AF h1
  refine DS (fun x=>x=_) B3 (by kernel_rfl) rfl ?_
  refine A6 rfl BU rfl (BZ rfl CI rfl (by rintro _ rfl; exact H.drew) at0 rfl ?_)
  refine AM rfl rfl (ZP rfl rfl rfl (by omega) (by omega) (show _≤(9223372036854775807:Int) by omega) ?_)
  rw [show (k:Int) / 2=((k / 2:Nat):Int) by omega]
  refine BN R rfl Ce BC rfl rfl (by omega) (by omega) (by rfl) ?_
  refine A6 rfl CU rfl (Cc rfl Bw rfl (by rintro _ rfl; exact (((R.ext0 H.drew.ext).fld he rfl (j:=2) rfl))) ?_)
  refine BT rfl rfl (AM rfl rfl (ZP rfl rfl rfl (by omega) (by omega) (show _≤(9223372036854775807:Int) by omega) ?_))
  rw [show (k:Int) / 2=((k / 2:Nat):Int) by omega]
  refine BN Rf rfl AR B2 rfl rfl (by omega) (by omega) (by rfl) ?_
  refine Cc rfl Bw rfl (by rintro _ rfl; exact (((Rf.ext0 H.drew.ext).fld hx rfl (j:=0) rfl))) ?_
  refine CW rfl rfl rfl (by omega) (by omega) ?_
  refine Co rfl rfl (BQ ?_)
  rintro _ rfl
  replace H:=H.drew
  refine A9 (Al (AB (v:=(.int _ _)) rfl rfl rfl ?_))
  exact ⟨by unfold I7; rw [if_neg (by omega)],H.ext⟩
 ·intro h1
  replace h1:=AG h1
  refine Av (Aa (Ag (An rfl rfl (Ad rfl rfl (GK rfl rfl rfl (by omega) (by omega) (show _≤(9223372036854775807:Int) by omega) ?_)))))
  rw [show (k:Int) / 2=((k / 2:Nat):Int) by omega]
  refine AZ Rf rfl AR B2 rfl rfl (by omega) (by omega) (by rfl) ?_
  refine AX rfl Bw rfl (((Rf.ext0 H.drew.ext).fld hx rfl (j:=0) rfl)) ?_
  refine Af rfl rfl (Ab (Aa (A9 (AB (v:=(.int _ _)) rfl rfl rfl ?_))))
  exact ⟨by unfold I7; rw [if_pos (by omega)],H.ext⟩
set_option maxRecDepth 20000 in
set_option maxHeartbeats 2000000 in
theorem Vo (N:Int) (a p:Option Addr) (n c q r:Nat) (es:List Ed) (pot:List Int) (w:World) (R:Rd w a 4 Bv es) (hn:es.length=n) (hb:n≤1000000) (Rp:Rd w p 1 I1 pot) (hq:pot.length=q) (k:Nat) (hk:k<2*es.length) (hr:BV N es=true) (hp:E3 N pot=true) :
  Ret Tryz.prog 128 #[CG N a n c,.slice p q r,.int .i64 (k:Int)] w fun v w'=>v = .int .i64 (Q0 N es pot (k:Int))∧Ext [] w w':=by
 subst hn hq
 obtain ⟨w0,rfl⟩:∃ w0,w0=w:=⟨_,rfl⟩
 have H:=Ctx.start w0 []
 obtain ⟨hN1,hN40,hn200,-⟩:=BR hr
 obtain ⟨hpl,hpb⟩:=JE hp
 obtain ⟨e,he,hE,q1,q2,q3,q4,q5,q6⟩:=L7 hr hk
 obtain ⟨un,hun⟩:∃ un:Nat,(EL e k).1=un:=⟨(EL e k).1.toNat,by omega⟩
 obtain ⟨vn,hvn⟩:∃ vn:Nat,(EL e k).2.1=vn:=⟨(EL e k).2.1.toNat,by omega⟩
 obtain ⟨pu,hpu⟩:=AC (l:=pot) (i:=un) (by omega)
 obtain ⟨pv,hpv⟩:=AC (l:=pot) (i:=vn) (by omega)
 have hbu:=hpb _ _ hpu
 have hbv:=hpb _ _ hpv
 have hli:Q0 N es pot (k:Int)=(EL e k).2.2+pu - pv:=by
  unfold Q0
  rw [hE,hun,hvn,Int.toNat_natCast,Int.toNat_natCast,Bn hpu,Bn hpv]
 rw [hli]
 refine A1 (fn:=Tryz.f128) Tryz.func128 rfl [CG N a es.length c,.slice p pot.length r,.int .i64 (k:Int)] rfl (by kernel_rfl) ?_
 refine Ag (Bs rfl [.int .i64 N,.slice a es.length c] (.agg _) rfl rfl H ?_)
 rintro b3 w - H
 refine Af rfl rfl (Ab (Aa (Ag (Bh rfl Cu Ci rfl H at0 rfl (Ad rfl rfl (Ao rfl Ab4 (SM N a es.length c es _ (R.ext0 H.ext) rfl hb k he hr) rfl ?_))))))
 rintro v w ⟨rfl,hx13⟩
 replace H:=H.call hx13
 rw [hun,hvn]
 refine BG rfl rfl (A7 rfl rfl rfl (A7 rfl rfl rfl (A7 rfl rfl rfl (Af rfl rfl (Af rfl rfl (Af rfl rfl (Ab (Aa (DS (fun x=>x=_) B3 (by kernel_rfl) rfl ?_)))))))))
 refine AM rfl rfl (BT rfl rfl (AM rfl rfl (BN Rp rfl AR B2 rfl rfl (by omega) (by omega) (by rfl) ?_)))
 refine Cc rfl Bw rfl (by rintro _ rfl; exact (((Rp.ext0 H.drew.ext).fld hpu rfl (j:=0) rfl))) ?_
 refine CE rfl rfl rfl (by omega) (by omega) ?_
 refine BT rfl rfl (AM rfl rfl (BN Rp rfl AR B2 rfl rfl (by omega) (by omega) (by rfl) ?_))
 refine Cc rfl Bw rfl (by rintro _ rfl; exact (((Rp.ext0 H.drew.ext).fld hpv rfl (j:=0) rfl))) ?_
 refine CW rfl rfl rfl (by omega) (by omega) ?_
 refine Co rfl rfl (BQ ?_)
 rintro _ rfl
 replace H:=H.drew
 refine A9 (AB (v:=(.int _ _)) rfl rfl rfl ?_)
 exact ⟨rfl,H.ext⟩
set_option maxRecDepth 20000 in
set_option maxHeartbeats 4000000 in
theorem SO (N:Int) (a b p:Option Addr) (n c m d q r:Nat) (es:List Ed) (fl pot:List Int) (w:World) (R:Rd w a 4 Bv es) (hn:es.length=n) (hn2:n≤1000000) (Rf:Rd w b 1 I1 fl) (hm:fl.length=m) (Rp:Rd w p 1 I1 pot) (hq:pot.length=q) (hq2:q≤1000000) (hw:B1 N es fl=true) :
  Ret Tryz.prog 65 #[CG N a n c,.slice b m d,.slice p q r] w fun v w'=>v = .bool (E3 N pot && FQ N es fl pot)∧Ext [] w w':=by
 subst hn hm hq
 obtain ⟨w0,rfl⟩:∃ w0,w0=w:=⟨_,rfl⟩
 have H:=Ctx.start w0 []
 obtain ⟨hfl,hr,hin⟩:=BE hw
 obtain ⟨hN1,hN40,hn200,-⟩:=BR hr
 refine A1 (fn:=Tryz.f65) Tryz.func65 rfl [CG N a es.length c,.slice b fl.length d,.slice p pot.length r] rfl (by kernel_rfl) ?_
 refine Ag (Bs rfl [.int .i64 N,.slice a es.length c] (.agg _) rfl rfl H ?_)
 rintro b3 w - H
 refine Ai rfl rfl (Ab (Aa (Aq (Ag (B5 (α:=Unit) 268434432 (fun _=>[(27,.bool (!decide ((pot.length:Int)=N)))]) (fun _ w'=>Ctx w0 [] w' [(b3,Bl 28 [.int .i64 N,.slice a es.length c])]) rfl ?_ ?_)))))
 ·refine Bh rfl Cu Ci rfl H at0 rfl (Ao rfl T5 (GG N a es.length c es _ (R.ext0 H.ext) rfl hn2) rfl ?_)
  rintro v w ⟨rfl,hx11⟩
  replace H:=H.call hx11
  rw [hr]
  refine Bu rfl rfl (Ak rfl rfl (A8 13 rfl ?_ ?_))
  ·intro h1
   replace h1:=Bp h1
   refine Ae rfl (Ae rfl (Ae rfl (Ae rfl (Ae rfl (Ae rfl (Am rfl rfl (.bool _) rfl (Ak rfl rfl (Ae rfl (Ae rfl ?_)))))))))
   refine Ae rfl (Ae rfl (Ae rfl (Am rfl rfl (.bool _) rfl (Ab ?_))))
   exact ⟨rfl,(),rfl,⟨congrArg Value.bool (by rw [Bool.eq_iff_iff] <;> simp_all <;> try omega),trivial⟩,H⟩
  ·intro h2
   replace h2:=Bq h2
   refine An rfl rfl (AU rfl AR rfl (Ah rfl BU rfl (AA rfl CI rfl H at0 rfl (AU rfl Ce rfl (CH rfl rfl rfl (A3 rfl rfl (.bool _) rfl (Ak rfl rfl (A8 21 rfl ?_ ?_))))))))
   ·intro h3
    replace h3:=CO h3
    refine Ae rfl (Ae rfl (Ae rfl (Ae rfl (Ae rfl (Am rfl rfl (.bool _) rfl (Ab ?_))))))
    exact ⟨rfl,(),rfl,⟨congrArg Value.bool (by rw [Bool.eq_iff_iff] <;> simp_all <;> try omega),trivial⟩,H⟩
   ·intro h4
    replace h4:=CP h4
    refine An rfl rfl (AU rfl AR rfl (Ah rfl Dn rfl (AA rfl BH rfl H at0 rfl (CH rfl rfl rfl (A3 rfl rfl (.bool _) rfl (Ab ?_))))))
    exact ⟨rfl,(),rfl,⟨congrArg Value.bool (by rw [Bool.eq_iff_iff] <;> simp_all <;> try omega),trivial⟩,H⟩
 rintro - j27 w H
 refine Ax _ rfl ?_ ?_
 ·intro h1
  replace h1:=Bp h1
  refine Ag (Ai rfl rfl (Ab (Aa (A9 (Al (AB (v:=(.bool _)) rfl rfl rfl ?_))))))
  exact ⟨congrArg Value.bool (by unfold E3; rw [show decide ((pot.length:Int)=N)=false by simpa using h1]; simp),H.ext⟩
 ·intro h1
  replace h1:=Bq h1
  have h1':(pot.length:Int)=N:=by simpa using h1
  refine Av (Aa (Aq (Ag (Af rfl rfl (Ab (Aa (Au (Bi 4503599358935232 (α:=Nat) (fun i=>[(7,.int .i64 (i:Int))]) (fun i w'=>i≤fl.length∧Ctx w0 [] w' [(b3,Bl 28 [.int .i64 N,.slice a es.length c])]) (fun i=>fl.length - i) 0 rfl ?_ ?_ ?_))))))))
  ·exact ⟨rfl,trivial⟩
  ·exact ⟨Nat.zero_le _,H⟩
  ·clear H
   rintro i j w ⟨hi,H⟩
   refine Aq (Ag (Ad rfl rfl (An rfl rfl (AU rfl AR rfl (AN rfl rfl rfl (Ab (Aa (Ax _ rfl ?_ ?_))))))))
   ·intro h2
    replace h2:=AF h2
    obtain ⟨e,he⟩:=AC (l:=es) (i:=i) (by omega)
    obtain ⟨x,hxf⟩:=AC (l:=fl) (i:=i) (by omega)
    have hxx:=hin _ e x he hxf
    refine Av (Aa (Aq (Au (CZ [([0,1,2,3,4,5,6,7,8,9,10,11,12,13,14,15,16],17)] (fun z=>Ext [] w0 z∧z.heap[b3]? = some (Bl 28 [.int .i64 N,.slice a es.length c])) [] B3 (by kernel_rfl) (⟨H.drew.ext,H.drew.get at0⟩) ?_))))
    refine Ba rfl rfl ?_
    refine Bo rfl rfl (AO rfl rfl (CL Rf rfl AR B2 rfl rfl (by omega) (by omega) (by rfl) ?_))
    refine Ck rfl Bw rfl (fun _ hx=>((Rf.ext0 hx.1).fld hxf rfl (j:=0) rfl)) ?_
    refine ZQ rfl rfl rfl (OK rfl rfl (Mf 39 rfl ?_ ?_))
    ·intro g1
     replace g1:=AF g1
     omega
    ·intro g1
     replace g1:=AG g1
     refine Bo rfl rfl (AO rfl rfl (CL Rf rfl AR B2 rfl rfl (by omega) (by omega) (by rfl) ?_))
     refine Ck rfl Bw rfl (fun _ hx=>((Rf.ext0 hx.1).fld hxf rfl (j:=0) rfl)) ?_
     refine AV rfl BU rfl (Ck rfl CI rfl (fun _ hx=>(by rw [Ay (hx.2)]; rfl)) ?_)
     refine AO rfl rfl (CL R rfl Ce BC rfl rfl (by omega) (by omega) (by rfl) ?_)
     refine AV rfl CU rfl (Ck rfl Bw rfl (fun _ hx=>((R.ext0 hx.1).fld he rfl (j:=2) rfl)) ?_)
     refine ZR rfl rfl rfl (BJ ?_)
     replace H:=H.drew
     refine A3 rfl rfl (.bool _) rfl (Ab (CX (⟨H.ext,H.get at0⟩) (Ch (Ax _ rfl ?_ ?_))))
     ·intro g2
      replace g2:=AF g2
      omega
     ·intro g2
      replace g2:=AG g2
      refine Av (A5 (Aa (Aw (Ad rfl rfl (Ap rfl rfl rfl (by omega) (by omega) ?_)))))
      refine Af rfl rfl (Ab (Aa ?_))
      exact ⟨i+1,rfl,⟨rfl,trivial⟩,⟨by omega,H⟩,by omega⟩
   ·intro h2
    replace h2:=AG h2
    refine Bd (Aj (Aj (AD (Aa (Aq (Ag (Af rfl rfl (Ab (Aa (Au (Bi 1180587117117783933248 (α:=Nat) (fun i=>[(8,.int .i64 (i:Int))]) (fun i w'=>i≤pot.length∧Ctx w0 [] w' [(b3,Bl 28 [.int .i64 N,.slice a es.length c])]∧∀ (k:Nat) (x:Int),k<i→pot[k]? = some x→I8 x=true) (fun i=>pot.length - i) 0 rfl ?_ ?_ ?_)))))))))))
    ·exact ⟨rfl,trivial⟩
    ·exact ⟨Nat.zero_le _,H,fun k x h=>absurd h (Nat.not_lt_zero _)⟩
    ·clear H
     rintro i8 j8 w ⟨hi8,H,hb⟩
     refine Aq (Ag (Ad rfl rfl (An rfl rfl (AU rfl AR rfl (AN rfl rfl rfl (Ab (Aa (Ax _ rfl ?_ ?_))))))))
     ·intro h3
      replace h3:=AF h3
      obtain ⟨x,hx⟩:=AC (l:=pot) (i:=i8) (by omega)
      refine Av (Aa (Aq (Au (Ag (B5 (α:=Unit) 1180303390341259591680 (fun _=>[(69,.bool (!I8 x))]) (fun _ w'=>Ctx w0 [] w' [(b3,Bl 28 [.int .i64 N,.slice a es.length c])]) rfl ?_ ?_)))))
      ·refine An rfl rfl (Ad rfl rfl (AZ Rp rfl AR B2 rfl rfl (by omega) (by omega) (by rfl) ?_))
       refine AX rfl Bw rfl (((Rp.ext0 H.ext).fld hx rfl (j:=0) rfl)) ?_
       refine C0 rfl rfl rfl (Ak rfl rfl (A8 63 rfl ?_ ?_))
       ·intro h5
        replace h5:=AF h5
        refine Ae rfl (Ae rfl (Ae rfl (Ae rfl (Ae rfl (Am rfl rfl (.bool _) rfl (Ab ?_))))))
        exact ⟨rfl,(),rfl,⟨congrArg Value.bool (by unfold I8; rw [Bool.eq_iff_iff]; simp_all; try omega),trivial⟩,H⟩
       ·intro h6
        replace h6:=AG h6
        refine An rfl rfl (Ad rfl rfl (AZ Rp rfl AR B2 rfl rfl (by omega) (by omega) (by rfl) ?_))
        refine AX rfl Bw rfl (((Rp.ext0 H.ext).fld hx rfl (j:=0) rfl)) ?_
        refine AN rfl rfl rfl (A3 rfl rfl (.bool _) rfl (Ab ?_))
        exact ⟨rfl,(),rfl,⟨congrArg Value.bool (by unfold I8; rw [Bool.eq_iff_iff]; simp_all; try omega),trivial⟩,H⟩
      rintro - j69 w H
      refine Ax _ rfl ?_ ?_
      ·intro g1
       replace g1:=Bp g1
       refine Ag (Ai rfl rfl (Ab (Aa (A9 (A4 (Al (Al (A4 (Al (AB (v:=(.bool _)) rfl rfl rfl ?_))))))))))
       exact ⟨congrArg Value.bool (by unfold E3; rw [D5 hx (by simpa using g1)]; rfl),H.ext⟩
      ·intro g1
       replace g1:=Bq g1
       refine Av (A5 (Aa (Aw (Ad rfl rfl (Ap rfl rfl rfl (by omega) (by omega) ?_)))))
       refine Af rfl rfl (Ab (Aa ?_))
       exact ⟨i8+1,rfl,⟨rfl,trivial⟩,⟨by omega,H,Xz hx hb (by simpa using g1)⟩,by omega⟩
     ·intro h3
      replace h3:=AG h3
      have hp:E3 N pot=true:=by
       unfold E3
       rw [E8 fun k x hk hx=>hb k x (by omega) hx,decide_eq_true h1']; rfl
      rw [hp,Bool.true_and]
      refine Bd (Aj (Aj (AD (Aa (Aq (Ag (Af rfl rfl (Ab (Aa (Au (Bi 618968839051069420038259264 (α:=Nat) (fun i=>[(9,.int .i64 (i:Int))]) (fun i w'=>i≤2*es.length∧Ctx w0 [] w' [(b3,Bl 28 [.int .i64 N,.slice a es.length c])]∧∀ k,k<i→EO N es fl pot k=true) (fun i=>2*es.length - i) 0 rfl ?_ ?_ ?_)))))))))))
      ·exact ⟨rfl,trivial⟩
      ·exact ⟨Nat.zero_le _,H,fun k h=>absurd h (Nat.not_lt_zero _)⟩
      ·clear H
       rintro i9 j9 w ⟨hi9,H,hb9⟩
       refine Aq (Ag (Ad rfl rfl (An rfl rfl (AU rfl AR rfl (Cf rfl rfl rfl (by omega) (by omega) ?_)))))
       refine AN rfl rfl rfl (Ab (Aa (Ax _ rfl ?_ ?_)))
       ·intro h4
        replace h4:=AF h4
        have hi2:i9<2*es.length:=by omega
        obtain ⟨e,x,he,hx,hro,r1,r2,r3⟩:=L8 hw hi2
        have hgo:EO N es fl pot i9=true→∀ k,k<i9+1→EO N es fl pot k=true:=fun h3 k hk=>by
         rcases Nat.lt_or_ge k i9 with h7 | h7
         ·exact hb9 k h7
         ·obtain rfl:k=i9:=by omega
          exact h3
        refine Av (Aa (Aq (Au (Ag (B5 (α:=Unit) 618818903915238308802723840 (fun _=>[(88,.bool (!EO N es fl pot i9))]) (fun _ w'=>Ctx w0 [] w' [(b3,Bl 28 [.int .i64 N,.slice a es.length c])]) rfl ?_ ?_)))))
        ·refine Bh rfl Cu Ci rfl H at0 rfl (An rfl rfl (Ad rfl rfl (Ao rfl Abd (SN N a b es.length c fl.length d es fl _ (R.ext0 H.ext) rfl hn2 (Rf.ext0 H.ext) rfl i9 he hx hw) rfl ?_)))
         rintro v w ⟨rfl,hx80⟩
         replace H:=H.call hx80
         rw [← hro]
         refine C0 rfl rfl rfl (Ak rfl rfl (A8 82 rfl ?_ ?_))
         ·intro h7
          replace h7:=AF h7
          refine Bh rfl Cu Ci rfl H at0 rfl (An rfl rfl (Ad rfl rfl (Ao rfl Abe (Vo N a p es.length c pot.length r es pot _ (R.ext0 H.ext) rfl hn2 (Rp.ext0 H.ext) rfl i9 hi2 hr hp) rfl ?_)))
          rintro v w ⟨rfl,hx86⟩
          replace H:=H.call hx86
          refine AN rfl rfl rfl (Am rfl rfl (.bool _) rfl (Ab ?_))
          exact ⟨rfl,(),rfl,⟨congrArg Value.bool (by unfold EO; rw [Bool.eq_iff_iff]; simp_all; try omega),trivial⟩,H⟩
         ·intro h8
          replace h8:=AG h8
          refine Ae rfl (Ae rfl (Ae rfl (Ae rfl (Ae rfl (A3 rfl rfl (.bool _) rfl (Ab ?_))))))
          exact ⟨rfl,(),rfl,⟨congrArg Value.bool (by unfold EO; rw [Bool.eq_iff_iff]; simp_all; try omega),trivial⟩,H⟩
        rintro - j88 w H
        refine Ax _ rfl ?_ ?_
        ·intro g1
         replace g1:=Bp g1
         refine Ag (Ai rfl rfl (Ab (Aa (A9 (A4 (Al (Al (A4 (Al (AB (v:=(.bool _)) rfl rfl rfl ?_))))))))))
         exact ⟨congrArg Value.bool (by unfold FQ; rw [D5 (List.getElem?_range hi2) (by simpa using g1)]),H.ext⟩
        ·intro g1
         replace g1:=Bq g1
         refine Av (A5 (Aa (Aw (Ad rfl rfl (Ap rfl rfl rfl (by omega) (by omega) ?_)))))
         refine Af rfl rfl (Ab (Aa ?_))
         exact ⟨i9+1,rfl,⟨rfl,trivial⟩,⟨by omega,H,hgo (by simpa using g1)⟩,by omega⟩
       ·intro h4
        replace h4:=AG h4
        refine Bd (Aj (Aj (AD (Aa (Ag (Ai rfl rfl (Ab (Aa (A9 (AB (v:=(.bool _)) rfl rfl rfl ?_))))))))))
        exact ⟨congrArg Value.bool (by unfold FQ; rw [List.all_eq_true.2 fun k hk=>hb9 k (by have:=List.mem_range.1 hk; omega)]),H.ext⟩
set_option maxRecDepth 20000 in
set_option maxHeartbeats 2000000 in
theorem QK (N:Int) (a b p:Option Addr) (n c m d q r:Nat) (es:List Ed) (fl pot:List Int) (w:World) (R:Rd w a 4 Bv es) (hn:es.length=n) (hn2:n≤1000000) (Rf:Rd w b 1 I1 fl) (hm:fl.length=m) (hm2:m≤1000000) (Rp:Rd w p 1 I1 pot) (hq:pot.length=q) (hq2:q≤1000000) :
  Ret Tryz.prog 20 #[CG N a n c,MB b p m d q r] w fun v w'=>v = .bool (Ea N es fl pot)∧Ext [] w w':=by
 subst hn hm hq
 obtain ⟨w0,rfl⟩:∃ w0,w0=w:=⟨_,rfl⟩
 have H:=Ctx.start w0 []
 obtain ⟨br,hbr⟩:∃ x,x=BV N es:=⟨_,rfl⟩
 obtain ⟨bf,hbf⟩:∃ x,x=Er N es fl:=⟨_,rfl⟩
 obtain ⟨bp,hbp⟩:∃ x,x=(E3 N pot && FQ N es fl pot):=⟨_,rfl⟩
 have hC:Ea N es fl pot=(br && (bf && bp)):=by rw [hbr,hbf,hbp]; rfl
 rw [hC]
 refine A1 (fn:=Tryz.f20) Tryz.func20 rfl [CG N a es.length c,MB b p fl.length d pot.length r] rfl (by kernel_rfl) ?_
 refine Ag (Bs rfl [.int .i64 N,.slice a es.length c] (.agg _) rfl rfl H ?_)
 rintro b2 w - H
 refine Bs rfl [.slice b fl.length d,.slice p pot.length r] (.agg _) rfl rfl H ?_
 rintro b3 w - H
 refine Ai rfl rfl (Ab (Aa (Ag (Bh rfl Cu Ci rfl H at1 rfl (Ao rfl T5 (GG N a es.length c es _ (R.ext0 H.ext) rfl hn2) rfl ?_)))))
 rintro v w ⟨rfl,hx6⟩
 replace H:=H.call hx6
 rw [← hbr]
 refine Ak rfl rfl (A8 7 rfl ?_ ?_)
 ·intro h1
  refine Bh rfl Cu Ci rfl H at1 rfl (Ah rfl Fp rfl (AA rfl BF rfl H at0 rfl (Ao rfl ca_64 (QJ N a b es.length c fl.length d es fl _ (R.ext0 H.ext) rfl hn2 (Rf.ext0 H.ext) rfl hm2) rfl ?_)))
  rintro v w ⟨rfl,hx11⟩
  replace H:=H.call hx11
  rw [← hbf]
  refine Am rfl rfl (.bool _) rfl (Ak rfl rfl (A8 13 rfl ?_ ?_))
  ·intro h2
   refine Bh rfl Cu Ci rfl H at1 rfl (Ah rfl Fp rfl (AA rfl BF rfl H at0 rfl (Ah rfl F7 rfl (AA rfl BF rfl H at0 rfl ?_))))
   have hwi:B1 N es fl=true:=(Fq (by rw [← hbf]; simp_all)).1
   refine Ao rfl ca_65 (SO N a b p es.length c fl.length d pot.length r es fl pot _ (R.ext0 H.ext) rfl hn2 (Rf.ext0 H.ext) rfl (Rp.ext0 H.ext) rfl hq2 hwi) rfl ?_
   rintro v w ⟨rfl,hx19⟩
   replace H:=H.call hx19
   rw [← hbp]
   refine Am rfl rfl (.bool _) rfl (Ai rfl rfl (Ab (Aa (A9 (AB (v:=(.bool _)) rfl rfl rfl ?_)))))
   exact ⟨congrArg Value.bool (by simp_all),H.ext⟩
  ·intro h3
   refine Ae rfl (Ae rfl (Ae rfl (Ae rfl (Ae rfl (Ae rfl (A3 rfl rfl (.bool _) rfl (Ai rfl rfl (Ab (Aa (A9 (AB (v:=(.bool _)) rfl rfl rfl ?_)))))))))))
   exact ⟨congrArg Value.bool (by simp_all),H.ext⟩
 ·intro h4
  refine Ae rfl (Ae rfl (Ae rfl (Ae rfl (A3 rfl rfl (.bool _) rfl (Ak rfl rfl (Ae rfl (Ae rfl (Ae rfl (Ae rfl ?_)))))))))
  refine Ae rfl (Ae rfl (A3 rfl rfl (.bool _) rfl (Ai rfl rfl (Ab (Aa (A9 (AB (v:=(.bool _)) rfl rfl rfl ?_)))))))
  exact ⟨congrArg Value.bool (by simp_all),H.ext⟩
end Go.Proofs.YtapphbmlkdhnmaaGreat

/- A round's net, as the reference has it. -/
namespace Go.Proofs.YtapphbmlkdhnmaaGreat
open Go.GV
attribute [local irreducible] A2 W Wq Wt

/-- Two slices that grow. -/
structure LS2 where
 i:Nat
 a:Option Addr
 c:Nat
 f:List Value
 a2:Option Addr
 c2:Nat
 f2:List Value
end Go.Proofs.YtapphbmlkdhnmaaGreat

/- The best flow: the walk. -/
namespace Go.Proofs.YtapphbmlkdhnmaaGreat
open Go.GV
attribute [local irreducible] A2 W Wq Wt

theorem perm5 {α:Type} {a b c d e:α} {r:List α}:(a::b::c::d::e::r).Perm (d::a::e::b::c::r) :=
 (List.perm_middle (l₁:=[a,b,c]) (l₂:=e::r)).trans (((List.perm_middle (l₁:=[b,c]) (l₂:=r)).cons _).cons _)
/-- Numbers that are 0 beyond the table. -/
theorem QL (f:Nat→Int) (n:Nat):∃ f1:Nat→Int,B4 f n=B4 f1 n∧flE (tab f1 n)=f1∧Ez (tab f1 n)=f1∧∀ i,i<n→f1 i=f i:=by
 refine ⟨fun i=>if i<n then f i else 0,List.map_congr_left fun i hi=>by dsimp only; rw [if_pos (List.mem_range.1 hi)],?_,?_,fun i hi=>if_pos hi⟩
 all_goals
  funext i
  first | unfold flE | unfold Ez
  rcases Nat.lt_or_ge i n with h | h
  ·rw [Bn (BM h)]
  ·rw [List.getD_eq_getElem?_getD,List.getElem?_eq_none (by rw [Db]; exact h)]
   exact (if_neg (by omega)).symm
theorem XC {g:Gr} {cap x y p:Nat→Int} (h:Fine g cap x p) (hy:∀ i,i<g.E→y i=x i):Fine g cap y p:=by
 refine ⟨fun i hi=>by rw [hy i hi]; exact h.in' i hi,fun a ha hr=>h.fit a ha ?_⟩
 unfold C6 at hr ⊢
 rw [hy _ (by omega)] at hr
 exact hr

theorem Adx {w:World} {bs bf bp bo:Nat} {N n:Nat} {ae:Option Addr} {ce:Nat} {kk:Int} {es:List Ed} {x p ov:Nat→Int} {full:List Value} {g:Gr} {cap:Nat→Int} (hn:es.length=n) (hg:grE (N:Int) es=g) (hcap:∀ i,i<n→Cl es i=cap i) (H0:Ctx w ((SL bs bf bp bo N ae n ce kk x p ov full).map (·.1)) w (SL bs bf bp bo N ae n ce kk x p ov full)) (O:OS ae n ce 4 full (es.flatMap Bv))
  (hr:BV (N:Int) es=true) (hF:Fine g cap x p) (hov:∀ v,v<N→ov v=B0 g x v) (hpb:∀ v,v<N → -1073741824≤p v∧p v≤1073741824) :
  Ret Tryz.prog 120 #[ptr bs] w fun v w'=>∃ (b:Bool) (x' p' ov':Nat→Int) (kk':Int),v = .bool b∧Ctx w ((SL bs bf bp bo N ae n ce kk x p ov full).map (·.1)) w' (SL bs bf bp bo N ae n ce kk' x' p' ov' full)∧Fine g cap x' p'∧(∀ v,v<N→ov' v=B0 g x' v)∧(∀ v,v<N → -1073741824≤p' v∧p' v≤1073741824) ∧
   (b=false→∀ v,v<N→B0 g x' v≤0)∧(b=true→Gy g x'+1≤Gy g x):=by
 subst hn hg
 obtain ⟨x1,hx1,hxn,-,hxe⟩:=QL x es.length
 obtain ⟨p1,hp1,-,hpn,hpe⟩:=QL p N
 have hgo:=JG hr
 have hsl:SL bs bf bp bo N ae es.length ce kk x p ov full=SL bs bf bp bo N ae es.length ce kk x1 p1 ov full:=by unfold SL; rw [hx1,hp1]
 have hF1:Fine (grE (N:Int) es) (Cl es) x1 p1:=MJ hgo (XC (KC hF hcap) hxe) hpe
 have hov1:∀ v,B0 (grE (N:Int) es) x1 v=B0 (grE (N:Int) es) x v:=fun v=>JC hxe v
 have hex:Gy (grE (N:Int) es) x1=Gy (grE (N:Int) es) x:=C3 fun v _=>by rw [hov1]
 rw [hsl] at H0 ⊢
 refine Ret.mono (Zt H0 O hr hF1 (fun v hv=>by rw [hov1]; exact hov v hv) (fun v hv=>by rw [hpe v hv]; exact hpb v hv) hxn hpn) ?_
 rintro v w' ⟨b,x',p',ov',kk',h1,h2,h3,h4,h5,h6,h7⟩
 exact ⟨b,x',p',ov',kk',h1,h2,KC h3 fun i hi=>(hcap i hi).symm,h4,h5,h6,fun h=>by rw [← hex]; exact h7 h⟩
theorem XD (g:Gr) (v:Nat):B0 g (fun _=>0) v=0:=by
 have:B0 g (fun _=>0) v=Bx (fun _=>0) g.E:=C3 fun i _=>by rw [Int.mul_zero]
 rw [this,Gv]
structure PSt where
 j:Nat
 full:List Value
 x:Nat→Int
 p:Nat→Int
 ov:Nat→Int
 kk:Int
structure FSt where
 x:Nat→Int
 p:Nat→Int
 ov:Nat→Int
 kk:Int

set_option maxRecDepth 20000 in
set_option maxHeartbeats 8000000 in
theorem Z5 (N:Nat) (a:Option Addr) (c:Nat) (es:List Ed) (w:World) (R:Rd w a 4 Bv es) (hr:BV (N:Int) es=true) :
  Ret Tryz.prog 59 #[CG (N:Int) a es.length c] w fun v w'=>∃ (bf bp:Nat) (x p:Nat→Int) (k:Int),v = .tuple #[MB (some ⟨bf,0,none⟩) (some ⟨bp,0,none⟩) es.length es.length N N,.int .i64 k,.int .i64 0]∧Fine (grE (N:Int) es) (Cl es) x p∧(∀ v,v<N→B0 (grE (N:Int) es) x v=0)∧(∀ v,v<N → -1073741824≤p v∧p v≤1073741824)∧Ctx w [] w' [(bf,Bl 2 (B4 x es.length)),(bp,Bl 2 (B4 p N))]:=by
 obtain ⟨w0,rfl⟩:∃ w0,w0=w:=⟨_,rfl⟩
 have H:=Ctx.start w0 []
 obtain ⟨hN1,hN40,hn200,hall,-⟩:=BR hr
 have hI:I64 (N:Int):=by unfold I64; omega
 refine A1 (fn:=Tryz.f59) Tryz.func59 rfl [CG (N:Int) a es.length c] rfl (by kernel_rfl) ?_
 refine Ag (Bs rfl [.int .i64 (N:Int),.slice a es.length c] (.agg _) rfl rfl H ?_)
 rintro b1 w - H
 refine Bm rfl WF H ?_
 rintro b2 w - H
 refine Af rfl rfl (Af rfl rfl (Ab (Aa (OD (Aq (Ag (Bh rfl Cu Ci rfl H at1 rfl (Ao rfl OW (Kg (N:Int) a es.length c es _ (R.ext0 H.ext) rfl hI) rfl ?_))))))))
 rintro v w ⟨rfl,hx11⟩
 replace H:=H.call hx11
 refine Bu rfl rfl (Ab (Aa (Ax _ rfl ?_ ?_)))
 ·intro h1
  replace h1:=Bp h1
  rw [hr] at h1
  cases h1
 ·intro h1
  replace h1:=Bq h1
  refine Av (Aa (Dw 8589918240 (α:=Nat × Nat × Nat × Nat × Nat × Nat × List Value) (fun z=>[(5,ptr z.1)]) (fun z w'=>OS (some ⟨z.2.2.2.2.1,0,none⟩) es.length z.2.2.2.2.2.1 4 z.2.2.2.2.2.2 (es.flatMap Bv)∧Ctx w0 [] w' [(z.2.1,Bl 2 (B4 (fun _=>0) es.length)),(z.2.2.2.1,Bl 2 (B4 (fun _=>0) N)),(z.2.2.2.2.1,Bl 92 z.2.2.2.2.2.2),(z.1,Bl 170 (SC N (some ⟨z.2.2.2.2.1,0,none⟩) es.length z.2.2.2.2.2.1 z.2.1 z.2.2.1 z.2.2.2.1 0)),(z.2.2.1,Bl 2 (B4 (fun _=>0) N)),(b2,Bl 31 [.slice none 0 0,.slice none 0 0]),(b1,Bl 28 [.int .i64 (N:Int),.slice a es.length c])]) rfl ?_ ?_))
  ·skip
   have hb1:=H.get at1
   refine UA (n:=19) (anc:=FR) Bk.b (Aad es.length es) (fun i=>14+i) (QA b1 N es.length a c) (FS N es.length) (show Tryz.prog.follows .mixedOrders=true by kernel_rfl) rfl (by kernel_rfl) ?_ (fun i j _ _ h=>by have h:14+i=14+j:=h; omega) (fun i k b B=>sStab b1 N es.length a c i k b B) ?_ ?_
   ·intro k hk
    have:k=0∨k=1∨k=2∨k=3∨k=4∨k=5∨k=6∨k=7∨k=8∨k=9∨k=10∨k=11∨k=12∨k=13∨k=14∨k=15∨k=16∨k=17∨k=18:=by omega
    simp [FR]
    omega
   ·intro i o e' w' B hi ho hold hsl hx hbl hgd
    have h4:e'.g 1=ptr b1:=(hold 1 fun j hj h=>by have h:1=14+j:=h; omega).trans rfl
    have hc4:w'.heap[b1]? = some (Bl 28 [.int .i64 (N:Int),.slice a es.length c]):=hx.to (by exact hb1) (by simp)
    have hcs:i=0∨i=1∨i=2∨i=3∨i=4∨i=5∨i=6∨i=7∨i=8∨i=9∨i=10∨i=11∨i=12∨i=13∨i=14∨i=15∨i=16∨i=17∨i=18:=by omega
    have hpure:∀ {v:Value},FS N es.length i=none→i≠5→QA b1 N es.length a c i (Iu B i default)=v→AQB Bk.b (Aad es.length es) (fun i=>14+i) (QA b1 N es.length a c) (FS N es.length) i e' w' B (put e' (some (14+i)) v) w':=fun h1 h5 h2=>⟨default,fun h=>absurd h h5,fun ob h=>(by rw [h1] at h; cases h),.refl _ _,by rw [h2]⟩
    rcases hcs with rfl | rfl | rfl | rfl | rfl | rfl | rfl | rfl | rfl | rfl | rfl | rfl | rfl | rfl | rfl | rfl | rfl | rfl | rfl
    ·cases Option.some.inj ho
     exact Ah rfl (by kernel_rfl) h4 (Ab (hpure rfl (by decide) rfl))
    ·cases Option.some.inj ho
     exact AX rfl BH (hsl 0 (by simp [FR])) (by rw [Ay hc4]; rfl) (Ab (hpure rfl (by decide) rfl))
    ·cases Option.some.inj ho
     refine Ha rfl Ce BC (Ctx.start w' []) fun b w2 H O=>?_
     have hbb:=H.blk (b,_) (List.mem_cons_self ..)
     exact Ab ⟨⟨b,0,[]⟩,(fun h=>by cases h),fun ob h=>(by obtain rfl:=Option.some.inj h; exact ⟨(H.own _ (List.mem_cons_self ..)).elim (fun h=>by cases h) id,hbb⟩),H.ext,rfl⟩
    ·cases Option.some.inj ho
     exact Ah rfl (by kernel_rfl) h4 (Ab (hpure rfl (by decide) rfl))
    ·cases Option.some.inj ho
     exact AX rfl CI (hsl 3 (by simp [FR])) (by rw [Ay hc4]; rfl) (Ab (hpure rfl (by decide) rfl))
    ·cases Option.some.inj ho
     have h16:e'.g 16 = .slice (some ⟨(B 2).b,0,none⟩) 0 0:=hsl 2 (by simp [FR])
     have h18:e'.g 18 = .slice a es.length c:=hsl 4 (by simp [FR])
     by_cases hn:es.length=0
     ·rw [hn] at h18
      exact Qc rfl Ce Ce BC h16 h18 (Ab ⟨default,fun _ => .inl hn,fun ob h=>(by simp [FS,hn] at h),.refl _ _,by simp [QA,sQ,hn,Iu]⟩)
     ·refine RW rfl Ce Ce BC Wl DH rfl (by decide) (es.flatMap Bv) h16 h18 (by omega) (Ev fun _ _=>rfl) (Rd.app (R.ext0 ((H.ext.trans (Ext.drew [] _)).trans hx)) (fun _ _=>rfl) (by decide)) (by omega) fun b c' full' w2 hb hx2 hbl2 O2=>?_
      exact Ab ⟨⟨b,c',full'⟩,fun _ => .inr O2,fun ob h=>(by simp only [FS,hn] at h; simp at h; subst h; exact ⟨by dsimp only; omega,by dsimp only; rw [He]; exact hbl2⟩),hx2,by simp [QA,sQ,hn,Iu]⟩
    ·cases Option.some.inj ho
     refine CC [.int .i64 (N:Int),.slice (some ⟨(sQ es.length B).b,0,none⟩) es.length (sQ es.length B).c] rfl pl_28 T8 ?_ (Ab (hpure rfl (by decide) rfl))
     show Instr.fill _ _ [(0,e'.g 15),(1,e'.g 19)]=_
     rw [show e'.g 15 = .int .i64 (N:Int) from hsl 1 (by simp [FR]),show e'.g 19 = .slice (some ⟨(sQ es.length B).b,0,none⟩) es.length (sQ es.length B).c from hsl 5 (by simp [FR])]
     rfl
    ·cases Option.some.inj ho
     exact Ah rfl (by kernel_rfl) h4 (Ab (hpure rfl (by decide) rfl))
    ·cases Option.some.inj ho
     exact AX rfl CI (hsl 7 (by simp [FR])) (by rw [Ay hc4]; rfl) (Ab (hpure rfl (by decide) rfl))
    ·cases Option.some.inj ho
     exact AU rfl Ce (hsl 8 (by simp [FR])) (Ab (hpure rfl (by decide) rfl))
    ·cases Option.some.inj ho
     refine FX rfl AR B2 OV GP (hsl 9 (by simp [FR])) (hsl 9 (by simp [FR])) (by omega) (by omega) (by omega) (by omega) (Ctx.start w' []) fun b w2 hb H=>?_
     have hbb:=H.get at0
     rw [show ((es.length:Nat):Int).toNat=es.length from rfl,Ex] at hbb
     exact Ab ⟨⟨b,0,[]⟩,(fun h=>by cases h),fun ob h=>(by obtain rfl:=Option.some.inj h; exact ⟨by dsimp only; omega,hbb⟩),H.ext,rfl⟩
    ·cases Option.some.inj ho
     exact Ah rfl (by kernel_rfl) h4 (Ab (hpure rfl (by decide) rfl))
    ·cases Option.some.inj ho
     exact AX rfl BH (hsl 11 (by simp [FR])) (by rw [Ay hc4]; rfl) (Ab (hpure rfl (by decide) rfl))
    ·cases Option.some.inj ho
     refine FX rfl AR B2 OV GP (hsl 12 (by simp [FR])) (hsl 12 (by simp [FR])) (by omega) (by omega) (by omega) (by omega) (Ctx.start w' []) fun b w2 hb H=>?_
     have hbb:=H.get at0
     rw [show ((N:Nat):Int).toNat=N from rfl,Ex] at hbb
     exact Ab ⟨⟨b,0,[]⟩,(fun h=>by cases h),fun ob h=>(by obtain rfl:=Option.some.inj h; exact ⟨by dsimp only; omega,hbb⟩),H.ext,rfl⟩
    ·cases Option.some.inj ho
     exact Ah rfl (by kernel_rfl) h4 (Ab (hpure rfl (by decide) rfl))
    ·cases Option.some.inj ho
     exact AX rfl BH (hsl 14 (by simp [FR])) (by rw [Ay hc4]; rfl) (Ab (hpure rfl (by decide) rfl))
    ·cases Option.some.inj ho
     refine FX rfl AR B2 OV GP (hsl 15 (by simp [FR])) (hsl 15 (by simp [FR])) (by omega) (by omega) (by omega) (by omega) (Ctx.start w' []) fun b w2 hb H=>?_
     have hbb:=H.get at0
     rw [show ((N:Nat):Int).toNat=N from rfl,Ex] at hbb
     exact Ab ⟨⟨b,0,[]⟩,(fun h=>by cases h),fun ob h=>(by obtain rfl:=Option.some.inj h; exact ⟨by dsimp only; omega,hbb⟩),H.ext,rfl⟩
    ·cases Option.some.inj ho
     refine CC (sSC N es.length B) rfl Acz Adc ?_ (Ab (hpure rfl (by decide) rfl))
     show Instr.fill _ _ [(0,e'.g 20),(1,e'.g 24),(2,e'.g 27),(3,e'.g 30)]=_
     rw [show e'.g 20 = .agg #[.int .i64 (N:Int),.slice (some ⟨(sQ es.length B).b,0,none⟩) es.length (sQ es.length B).c] from hsl 6 (by simp [FR]),show e'.g 24 = .slice (some ⟨(B 10).b,0,none⟩) es.length es.length from hsl 10 (by simp [FR]),show e'.g 27 = .slice (some ⟨(B 13).b,0,none⟩) N N from hsl 13 (by simp [FR]),show e'.g 30 = .slice (some ⟨(B 16).b,0,none⟩) N N from hsl 16 (by simp [FR])]
     rfl
    ·cases Option.some.inj ho
     refine Bs rfl (sSC N es.length B) (.agg _) (hsl 17 (by simp [FR])) rfl (Ctx.start w' []) fun b w2 hb H=>?_
     exact Ab ⟨⟨b,0,[]⟩,(fun h=>by cases h),fun ob h=>(by obtain rfl:=Option.some.inj h; exact ⟨by dsimp only; omega,H.get at0⟩),H.ext,rfl⟩
   ·intro o e' w' B ho A
    have hl1:=Bt hb1
    have hl2:=Bt (H.get at0)
    have h9:w.drew.heap.size=w.heap.size:=rfl
    obtain ⟨iq,hiq,hqb,hqh,hqo,O5⟩:∃ iq,(iq=2∨iq=5)∧(sQ es.length B).b=(B iq).b∧w'.heap[(B iq).b]? = some (Bl 92 (sQ es.length B).f)∧(FS N es.length iq≠none)∧OS (some ⟨(sQ es.length B).b,0,none⟩) es.length (sQ es.length B).c 4 (sQ es.length B).f (es.flatMap Bv):=by
     by_cases hn:es.length=0
     ·have he:es=[]:=List.eq_nil_of_length_eq_zero hn
      have hsq:sQ es.length B=⟨(B 2).b,0,[]⟩:=if_pos hn
      rw [hsq]
      refine ⟨2,.inl rfl,rfl,(A.blk 2 _ (by omega) trivial (show FS N es.length 2=some _ from rfl)).1,by simp [FS],?_⟩
      subst he
      exact ⟨(fun q hq=>by injection hq with hq; subst hq; rfl),(fun h=>by cases h),rfl,Nat.le_refl _,rfl⟩
     ·have hsq:sQ es.length B=B 5:=if_neg hn
      have ho5:FS N es.length 5=some fun B=>Bl 92 (B 5).f:=by simp [FS,hn]
      rw [hsq]
      exact ⟨5,.inr rfl,rfl,(A.blk 5 _ (by omega) trivial ho5).1,by rw [ho5]; simp,(A.good 5 (by omega) trivial rfl).resolve_left hn⟩
    have hiq19:iq<19:=by omega
    have ob10:FS N es.length 10≠none:=by simp [FS]
    have ob13:FS N es.length 13≠none:=by simp [FS]
    have ob16:FS N es.length 16≠none:=by simp [FS]
    have ob18:FS N es.length 18≠none:=by simp [FS]
    have hne:=fun i j hi hj hij oi oj=>A.ne i j hi hj hij trivial trivial oi oj
    have k10:=A.blk 10 _ (by omega) trivial (show FS N es.length 10=some _ from rfl)
    have k13:=A.blk 13 _ (by omega) trivial (show FS N es.length 13=some _ from rfl)
    have k16:=A.blk 16 _ (by omega) trivial (show FS N es.length 16=some _ from rfl)
    have k18:=A.blk 18 _ (by omega) trivial (show FS N es.length 18=some _ from rfl)
    have kq:w.heap.size≤(B iq).b:=by
     cases hoq:FS N es.length iq with
     | none=>exact absurd hoq hqo
     | some ob=>exact (A.blk iq ob hiq19 trivial hoq).2
    have hs0:=H.size
    have n10_16:=hne 10 16 (by omega) (by omega) (by omega) ob10 ob16
    have n10_q:=hne 10 iq (by omega) hiq19 (by omega) ob10 hqo
    have n10_18:=hne 10 18 (by omega) (by omega) (by omega) ob10 ob18
    have n10_13:=hne 10 13 (by omega) (by omega) (by omega) ob10 ob13
    have n16_q:=hne 16 iq (by omega) hiq19 (by omega) ob16 hqo
    have n16_18:=hne 16 18 (by omega) (by omega) (by omega) ob16 ob18
    have n16_13:=hne 16 13 (by omega) (by omega) (by omega) ob16 ob13
    have nq_18:=hne iq 18 hiq19 (by omega) (by omega) hqo ob18
    have nq_13:=hne iq 13 hiq19 (by omega) (by omega) hqo ob13
    have n18_13:=hne 18 13 (by omega) (by omega) (by omega) ob18 ob13
    have n12:=H.ne at0 at1 (by decide)
    have hb20:=(H.own _ (List.mem_cons_self ..)).elim (fun h=>by cases h) id
    have hb10:=(H.own _ (List.mem_cons_of_mem _ (List.mem_cons_self ..))).elim (fun h=>by cases h) id
    have Hc:Ctx w0 [] w' [((B 10).b,Bl 2 (B4 (fun _=>0) es.length)),((B 16).b,Bl 2 (B4 (fun _=>0) N)),((B iq).b,Bl 92 (sQ es.length B).f),((B 18).b,Bl 170 (sSC N es.length B)),((B 13).b,Bl 2 (B4 (fun _=>0) N)),(b2,Bl 31 [.slice none 0 0,.slice none 0 0]),(b1,Bl 28 [.int .i64 (N:Int),.slice a es.length c])]:=by
     refine ⟨(H.ext.trans (Ext.drew [] _)).trans A.ext,fun x hx=>?_,?_,fun x hx => .inr ?_⟩
     ·simp only [List.mem_cons,List.not_mem_nil,or_false] at hx
      rcases hx with rfl | rfl | rfl | rfl | rfl | rfl | rfl
      ·exact k10.1
      ·exact k16.1
      ·exact hqh
      ·exact k18.1
      ·exact k13.1
      ·exact A.ext.to (H.get at0) (by simp)
      ·exact A.ext.to hb1 (by simp)
     ·simp only [List.pairwise_cons,List.mem_cons,List.not_mem_nil,or_false,forall_eq_or_imp,forall_eq,List.Pairwise.nil,false_imp_iff,implies_true,and_true]
      refine ⟨⟨n10_16,n10_q,n10_18,n10_13,?_,?_⟩,⟨n16_q,n16_18,n16_13,?_,?_⟩,⟨nq_18,nq_13,?_,?_⟩,⟨n18_13,?_,?_⟩,⟨?_,?_⟩,n12⟩ <;> omega
     ·simp only [List.mem_cons,List.not_mem_nil,or_false] at hx
      rcases hx with rfl | rfl | rfl | rfl | rfl | rfl | rfl <;> (dsimp only; omega)
    cases Option.some.inj ho
    refine BW rfl (ptr (B 18).b) (A.slot 18 (by omega) trivial) (Ab ⟨((B 18).b,(B 10).b,(B 13).b,(B 16).b,(sQ es.length B).b,(sQ es.length B).c,(sQ es.length B).f),A.ds,⟨rfl,trivial⟩,O5,?_⟩)
    dsimp only
    rw [hqb]
    have hsc:sSC N es.length B=SC N (some ⟨(B iq).b,0,none⟩) es.length (sQ es.length B).c (B 10).b (B 13).b (B 16).b 0:=by unfold sSC; rw [hqb]
    rw [hsc] at Hc
    exact Hc
  ·rintro ⟨bs,bf,bp,bo,q,ce,full⟩ j w ⟨O,H⟩; dsimp only at O H; dsimp only
   obtain ⟨g,hg⟩:∃ g,g=grE (N:Int) es:=⟨_,rfl⟩
   have hgE:g.E=es.length:=by rw [hg]; rfl
   have hgN:g.N=N:=by rw [hg]; rfl
   have hgo:g.Ok:=by rw [hg]; exact JG hr
   have hcb:=LA hr
   rw [← hg]
   refine Ag (Af rfl rfl (Ab (Aa (Aq (Ag (Ah rfl BU rfl (AA rfl CI rfl H at6 rfl (AU rfl Ce rfl (Ad rfl rfl (Ab (Aa ?_)))))))))))
   refine Au (Bi 72057525318451648 (α:=Nat × Nat × List Value) (fun t=>[(36,.int .i64 (t.1:Int)),(6,.int .i64 (t.2.1:Int))]) (fun t w'=>t.1≤es.length∧OS (some ⟨q,0,none⟩) es.length ce 4 t.2.2 ((esC es (HU (Cl es) (fun _=>0) t.1)).flatMap Bv)∧(∀ j,j<t.1→(Cl es j).toNat<2 ^ t.2.1)∧t.2.1≤64∧Ctx w0 [] w' [(bf,Bl 2 (B4 (fun _=>0) es.length)),(bo,Bl 2 (B4 (fun _=>0) N)),(q,Bl 92 t.2.2),(bs,Bl 170 (SC N (some ⟨q,0,none⟩) es.length ce bf bp bo 0)),(bp,Bl 2 (B4 (fun _=>0) N)),(b2,Bl 31 [.slice none 0 0,.slice none 0 0]),(b1,Bl 28 [.int .i64 (N:Int),.slice a es.length c])]) (fun t=>es.length - t.1) (0,0,full) rfl ?_ ?_ ?_)
   ·exact ⟨rfl,rfl,trivial⟩
   ·refine ⟨Nat.zero_le _,?_,fun j h=>absurd h (Nat.not_lt_zero _),by dsimp only; omega,H⟩
    rw [Je (d:=Cl es) fun i _=>by unfold HU; rw [if_neg (Nat.not_lt_zero _)],ML]
    exact O
   ·rintro ⟨i,m,full⟩ j w ⟨hi,O,hm,hm6,H⟩; dsimp only at hi O hm hm6 H; dsimp only
    refine Ag (AN rfl rfl rfl (Ab (Aa (Aq (Ax _ rfl ?_ ?_)))))
    ·intro h2
     replace h2:=AF h2
     have hil:i<es.length:=by omega
     obtain ⟨e,he⟩:=AC hil
     have hee:=CN (hall e (List.mem_of_getElem? he))
     obtain ⟨cc,hcc⟩:∃ cc:Nat,e.cap=cc:=⟨e.cap.toNat,by omega⟩
     have henc:Bv e=[.int .i64 e.f,.int .i64 e.t,.int .i64 (cc:Int),.int .i64 e.cost]:=by unfold Bv; rw [hcc]
     have hOl:=O.len
     have hOe:=O.le
     refine Av (Aa (Aq (Au (Ag (Ad rfl rfl (AZ R rfl Ce BC rfl rfl (by omega) (by omega) (by rfl) ?_))))))
     refine Cr _ rfl DX BC rfl rfl (Rd.rowE (R.ext0 H.ext) he henc rfl) ?_
     refine Bm rfl DH H ?_
     rintro b8 w - H
     refine Af rfl rfl (BD rfl BC rfl rfl rfl (by simp [Bz]) H at0 rfl ?_)
     rintro w H
     refine Ab (Aa (Ag (Bj rfl rfl (Bc rfl rfl (Ah rfl FE rfl (Ah rfl BU rfl (AA rfl CI rfl H at4 rfl (Ad rfl rfl (Bb rfl Ce BC rfl rfl (by omega) (by omega) ?_)))))))))
     refine Ah rfl CU rfl (Cj (.int _ _) rfl B2 rfl rfl rfl H at3 (by omega) ?_)
     rintro w H
     refine Ab (Aa (Aw (Ad rfl rfl (Ah rfl CU rfl (AA rfl Bw rfl H at0 rfl (D3 rfl rfl Sp FH (by omega) (by omega) ?_))))))
     refine Ao rfl Wn (Q9 cc (by omega) _) rfl ?_
     rintro v w ⟨r,rfl,hr1,hr2,-,rfl⟩
     refine Lt rfl rfl rfl ?_
     refine Af rfl rfl (Ab (A5 (Aa (Aw (Ap rfl rfl rfl (by omega) (by omega) ?_)))))
     refine Ad rfl rfl (Ab (Aa ?_))
     rw [show 0+((i:Int)).toNat*4+2=i*4+2 by omega] at H
     have O1:=OS.setf O (y:=edC es (HU (Cl es) (fun _=>0) (i+1)) i) (j:=2) (v := .int .i64 0) (fun _=>rfl) (HT (c:=HU (Cl es) (fun _=>0) i) hil) (by decide) (by unfold edC Bv HU; dsimp only; rw [if_pos (by omega)]; rfl)
     rw [TN rfl (fun j _ hj=>TQ hj)] at O1
     have hce:Cl es i=(cc:Int):=by unfold Cl; rw [Bn he,hcc]
     refine ⟨(i+1,max m r,full.set (i*4+2) (.int .i64 0)),rfl,⟨rfl,congrArg (Value.int .i64) (by dsimp only; omega),trivial⟩,⟨by dsimp only; omega,O1,fun j hj=>?_,by dsimp only; omega,H.tail⟩,by dsimp only; omega⟩
     dsimp only at hj ⊢
     by_cases ej:j=i
     ·subst ej
      rw [hce]
      exact Nat.lt_of_lt_of_le (by omega) (Nat.pow_le_pow_right (by decide) (Nat.le_max_right m r))
     ·exact Nat.lt_of_lt_of_le (hm j (by omega)) (Nat.pow_le_pow_right (by decide) (Nat.le_max_left m r))
    ·intro h2
     replace h2:=AG h2
     obtain rfl:i=es.length:=by omega
     rw [Je (d:=Fv es m) fun i hi=>by unfold HU Fv; rw [if_pos hi,Nat.div_eq_of_lt (hm i hi)]; rfl] at O
     refine Bd (Aj (Aj (AD (Aa (Ag (Ad rfl rfl (Af rfl rfl (Ab (Aa (Aq (OC (Aa (Aq (Au (Bi 147429837401600557568 (α:=PSt) (fun t=>[(9,.int .i64 (t.j:Int))]) (fun t w'=>t.j≤64∧OS (some ⟨q,0,none⟩) es.length ce 4 t.full ((esC es (Fv es t.j)).flatMap Bv)∧Fine g (Fv es t.j) t.x t.p∧(∀ v,v<N→B0 g t.x v=0)∧(∀ v,v<N→t.ov v=0)∧(∀ v,v<N → -1073741824≤t.p v∧t.p v≤1073741824)∧Ctx w0 [] w' [(bf,Bl 2 (B4 (t.x) es.length)),(bo,Bl 2 (B4 (t.ov) N)),(q,Bl 92 t.full),(bs,Bl 170 (SC N (some ⟨q,0,none⟩) es.length ce bf bp bo t.kk)),(bp,Bl 2 (B4 (t.p) N)),(b2,Bl 31 [.slice none 0 0,.slice none 0 0]),(b1,Bl 28 [.int .i64 (N:Int),.slice a es.length c])]) (fun t=>t.j) ⟨m,full,fun _=>0,fun _=>0,fun _=>0,0⟩ rfl ?_ ?_ ?_)))))))))))))))
     ·exact ⟨rfl,trivial⟩
     ·refine ⟨hm6,O,⟨fun i hi=>⟨Int.le_refl _,(L9 hr m i (by omega)).1⟩,fun a ha hra=>?_⟩,fun v _=>XD g v,fun _ _=>rfl,fun _ _=>⟨by dsimp only; omega,by dsimp only; omega⟩,H⟩
      exfalso
      unfold C6 at hra
      have hai:a / 2<es.length:=by omega
      have hk0:Fv es m (a / 2)=0:=by unfold Fv; rw [Nat.div_eq_of_lt (hm _ hai)]; rfl
      dsimp only at hra
      rw [hk0] at hra
      split at hra <;> omega
     ·rintro ⟨j,full,x,p,ov,kk⟩ jj w ⟨hj6,O,hF,hx0,hov,hpb,H⟩; dsimp only at hj6 O hF hx0 hov hpb H; dsimp only
      rcases j with _ | j
      ·skip
       refine Au (Aq (Ag (Ad rfl rfl (Bf rfl rfl rfl (by omega) (by omega) ?_))))
       refine Af rfl rfl (Ab (Aa (Ag (Ad rfl rfl (AN rfl rfl rfl (Ab (Aa (Ax _ rfl ?_ ?_))))))))
       ·intro h3
        replace h3:=AF h3
        refine Bd (Aj (EA rfl (Aj (AD (Aa (CZ [([0,1,2,3,4,5,6,7,8,9,10,11,12],13),([14],15)] (fun z=>z.heap[bs]? = some (Bl 170 (SC N (some ⟨q,0,none⟩) es.length ce bf bp bo kk))) [] B3 (by kernel_rfl) (H.drew.get at3) ?_))))))
        refine Ba rfl rfl ?_
        refine Dy rfl rfl (B6 rfl rfl (AV rfl Et rfl (Ck rfl BF rfl (fun _ hx=>(by rw [Ay hx]; rfl)) ?_)))
        refine Dy rfl rfl (B6 rfl rfl (AV rfl Eu rfl (Ck rfl BF rfl (fun _ hx=>(by rw [Ay hx]; rfl)) ?_)))
        refine VV [.slice (some ⟨bf,0,none⟩) es.length es.length,.slice (some ⟨bp,0,none⟩) N N] rfl pl_31 WF rfl ?_
        refine Dy rfl rfl (B6 rfl rfl (AV rfl Mu rfl (Ck rfl BH rfl (fun _ hx=>(by rw [Ay hx]; rfl)) ?_)))
        refine BJ ?_
        replace H:=H.drew
        refine BD rfl M1 rfl rfl rfl (by simp [Bz]) H at5 rfl ?_
        rintro w H
        refine Ab (CX (H.get at3) (Ba rfl rfl ?_))
        refine NA rfl rfl (BJ (Af rfl rfl (Ab (CX (H.get at3) (Ch (A9 (Us (YH rfl rfl rfl Qn M1 H at5 rfl (show _=(.int _ _) from rfl) (show _=(.int _ _) from rfl) ?_))))))))
        refine ⟨bf,bp,x,p,kk,rfl,KC hF fun i hi=>(UT hr i (by omega)).symm,hx0,hpb,H.sub (fun y hy=>?_) ?_⟩
        ·simp only [List.mem_cons,List.not_mem_nil,or_false] at hy
         rcases hy with rfl | rfl
         ·exact List.mem_of_getElem? (i:=0) rfl
         ·exact List.mem_of_getElem? (i:=4) rfl
        ·simp only [List.pairwise_cons,List.mem_singleton,forall_eq,List.not_mem_nil,false_imp_iff,implies_true,List.Pairwise.nil,and_true]
         exact H.ne at0 at4 (by decide)
       ·intro h3
        replace h3:=AG h3
        omega
      ·skip
       refine Au (Aq (Ag (Ad rfl rfl (Bf rfl rfl rfl (by omega) (by omega) ?_))))
       rw [show ((j+1:Nat):Int) - 1=(j:Int) by omega]
       refine Af rfl rfl (Ab (Aa (Ag (Ad rfl rfl (AN rfl rfl rfl (Ab (Aa (Ax _ rfl ?_ ?_))))))))
       ·intro h3
        replace h3:=AF h3
        omega
       ·intro h3
        replace h3:=AG h3
        have hF1:=M9 hF (cap':=Fv es j) fun i _=>NQ es j i
        obtain ⟨x1,hx1⟩:∃ x1,x1=I5 g (Fv es j) x p:=⟨_,rfl⟩
        refine Av (Aa (Ag (Bj rfl rfl (Bh rfl Cu Ci rfl H at6 rfl (Ad rfl rfl (Ao rfl Aa8 (Xo (bf:=bf) (bo:=bo) (ae:=some ⟨q,0,none⟩) (Ctx.lend (L1:=[_,_,_]) (L2:=[_,_,_,_]) H) O (H.get at3) (F8 (L:=[_,_,_]) H.nd (x:=(bs,_)) (List.mem_of_getElem? (i:=0) rfl)) (H.get at4) (F8 (L:=[_,_,_]) H.nd (x:=(bp,_)) (List.mem_of_getElem? (i:=1) rfl)) (R.ext0 H.ext) (fun hne hm=>by have h7:=Rd.lt R hne (fun x _=>⟨_,rfl⟩) (by decide); have h8:=(Ctx.left (L:=[_,_,_]) (L':=[_,_,_,_]) H).own; obtain ⟨y,hy,he⟩:=List.mem_map.1 hm; rcases h8 y hy with h | h; cases h; omega) hr (by omega) (fun i _=>NQ es j i) (by rw [← hg]; exact hF) (by rw [← hg]; exact hx0) hov hpb) rfl ?_))))))
        rintro rv w ⟨rfl,full',O',H2⟩
        rw [← hg] at H2
        replace H:=Ctx.back (L1:=[_,_,_]) (L2:=[_,_,_,_]) H H2
        refine Ab (Aa (Au ?_))
        rw [← hx1] at hF1 H
        refine Bi 110680464442257309696 (α:=FSt) (fun _=>[]) (fun t w'=>Fine g (Fv es j) t.x t.p∧(∀ v,v<N→t.ov v=B0 g t.x v)∧(∀ v,v<N → -1073741824≤t.p v∧t.p v≤1073741824)∧Ctx w0 [] w' [(bf,Bl 2 (B4 (t.x) es.length)),(bo,Bl 2 (B4 (t.ov) N)),(q,Bl 92 full'),(bs,Bl 170 (SC N (some ⟨q,0,none⟩) es.length ce bf bp bo t.kk)),(bp,Bl 2 (B4 (t.p) N)),(b2,Bl 31 [.slice none 0 0,.slice none 0 0]),(b1,Bl 28 [.int .i64 (N:Int),.slice a es.length c])]) (fun t=>(Gy g t.x).toNat) ⟨x1,p,B0 g x1,kk⟩ rfl ?_ ?_ ?_
        ·exact trivial
        ·exact ⟨hF1,fun _ _=>rfl,hpb,H⟩
        ·rintro ⟨x,p,ov,kk⟩ jj2 w ⟨hF,hov,hpb,H⟩; dsimp only at hF hov hpb H; dsimp only
         refine Aq (Ag (Bj rfl rfl ?_))
         have Hq:=H.perm perm5
         refine Ao rfl Aa9 (Adx (bs:=bs) (bf:=bf) (bp:=bp) (bo:=bo) (N:=N) (n:=es.length) (ae:=some ⟨q,0,none⟩) (ce:=ce) (es:=esC es (Fv es j)) (g:=g) (cap:=Fv es j) (HS es _) (by rw [grE_C,← hg]) (fun i hi=>Adm hi) (Ctx.lend (L1:=[_,_,_,_,_]) (L2:=[_,_]) Hq) O' (TO hr (L9 hr j)) hF hov hpb) rfl ?_
         rintro rv w ⟨b,x',p',ov',kk',rfl,H2,hF',hov',hpb',hb0,hb1⟩
         replace H:=(Ctx.back (L1:=[_,_,_,_,_]) (L2:=[_,_]) Hq H2).perm perm5.symm
         refine Ab (Aa (Ax _ rfl ?_ ?_))
         ·intro h4
          refine Av (Aa (Au (Av (A5 (Aa ?_)))))
          have h5:=hb1 h4
          have h6:=UH g x'
          exact ⟨⟨x',p',ov',kk'⟩,rfl,trivial,⟨hF',hov',hpb',H⟩,by dsimp only; omega⟩
         ·intro h4
          refine Bd (Aj (Aj (AD (A5 (Aa ?_)))))
          have hz:∀ v,v<N→B0 g x' v=0:=fun v hv=>Qy hgo (fun u hu=>hb0 h4 u (by omega)) v (by omega)
          exact ⟨⟨j,full',x',p',ov',kk'⟩,rfl,⟨rfl,trivial⟩,⟨by dsimp only; omega,O',hF',hz,fun v hv=>(hov' v hv).trans (hz v hv),hpb',H⟩,by dsimp only; omega⟩

end Go.Proofs.YtapphbmlkdhnmaaGreat

/- Whether what flows is the best: plain law; rounds as they lie in memory. -/
namespace Go.Proofs.YtapphbmlkdhnmaaGreat
open Go.GV
attribute [local irreducible] A2 W Wq Wt

theorem TY {N:Int} {es:List Ed} {pot:List Int} (hr:BV N es=true) {k:Nat} (hk:k<2*es.length):Q0 N es pot (k:Int)=(grE N es).len (Ez pot) k:=by
 obtain ⟨e,he,hE,-⟩:=L7 hr hk
 unfold Q0 Gr.len Gr.c Gr.u Gr.v
 rw [hE]
 unfold EL
 rcases Nat.mod_two_eq_zero_or_one k with h | h
 ·rw [if_pos h,if_pos h,if_pos h,X7 he,gr_f he,gr_t he,if_neg (by omega)]; rfl
 ·rw [if_pos h,if_neg (show ¬ k % 2=0 by omega),if_neg (show ¬ k % 2=0 by omega),if_neg (show ¬ k % 2=0 by omega),X7 he,gr_f he,gr_t he]; rfl
theorem QM {N:Int} {es:List Ed} {fl:List Int} (hw:B1 N es fl=true) {k:Nat} (hk:k<2*es.length):Js N es fl (k:Int)=C6 (Cl es) (flE fl) k:=by
 obtain ⟨e,x,he,hx,hro,-⟩:=L8 hw hk
 rw [hro]
 unfold I7 C6 Cl flE
 rw [Bn he,Bn hx]
 rcases Nat.mod_two_eq_zero_or_one k with h | h
 ·rw [if_neg (by omega),if_pos h]
 ·rw [if_pos h,if_neg (by omega)]
theorem XE {N:Int} {es:List Ed} {fl:List Int} (hw:B1 N es fl=true) (h:∀ v,v<N.toNat→B0 (grE N es) (flE fl) v=0):Er N es fl=true:=by
 unfold Er Jt
 rw [hw,Bool.true_and,List.all_eq_true]
 intro x hx
 obtain ⟨i,hi⟩:=List.mem_iff_getElem?.1 hx
 obtain ⟨h1,rfl⟩:=MA hi
 exact decide_eq_true (h i h1)
/-- What is accepted: what flows, whole numbers of the nodes, none too great, and they fit. -/
theorem Gg {N:Int} {es:List Ed} {fl pot:List Int}:Ea N es fl pot=true↔Er N es fl=true∧E3 N pot=true∧Fine (grE N es) (Cl es) (flE fl) (Ez pot):=by
 have hE:(grE N es).E=es.length:=rfl
 unfold Ea
 simp only [Bool.and_eq_true]
 constructor
 ·rintro ⟨hr,hf,hp,ht⟩
  have hw:=(Fq hf).1
  obtain ⟨hl,-,hin⟩:=BE hw
  refine ⟨hf,hp,fun i hi=>?_,fun a ha hro=>?_⟩
  ·rw [hE] at hi
   obtain ⟨e,he⟩:=AC hi
   obtain ⟨x,hx⟩:=AC (l:=fl) (i:=i) (by omega)
   unfold flE Cl
   rw [Bn he,Bn hx]
   exact hin i e x he hx
  ·rw [hE] at ha
   have h1:=List.all_eq_true.1 ht a (List.mem_range.2 ha)
   unfold EO at h1
   rw [TY hr ha,QM hw ha,decide_eq_true hro,Bool.and_true,Bool.not_eq_true',decide_eq_false_iff_not] at h1
   omega
 ·rintro ⟨hf,hp,hF⟩
  have hw:=(Fq hf).1
  obtain ⟨hl,hr,hin⟩:=BE hw
  refine ⟨hr,hf,hp,List.all_eq_true.2 fun a ha=>?_⟩
  rw [List.mem_range] at ha
  unfold EO
  rw [TY hr ha,QM hw ha,Bool.not_eq_true']
  by_cases h:0<C6 (Cl es) (flE fl) a
  ·rw [decide_eq_false (by have:=hF.fit a ha h; omega),Bool.false_and]
  ·rw [decide_eq_false h,Bool.and_false]
/-- What is told by the solver is accepted. -/
theorem SP {N:Nat} {es:List Ed} {x p:Nat→Int} (hr:BV (N:Int) es=true) (hF:Fine (grE (N:Int) es) (Cl es) x p) (ho:∀ v,v<N→B0 (grE (N:Int) es) x v=0) (hp:∀ v,v<N → -1073741824≤p v∧p v≤1073741824):Ea (N:Int) es (tab x es.length) (tab p N)=true:=by
 have hx:∀ i,i<es.length→flE (tab x es.length) i=x i:=fun i hi=>Zm hi
 have hq:∀ v,v<N→Ez (tab p N) v=p v:=fun v hv=>Bn (BM hv)
 have hw:B1 (N:Int) es (tab x es.length)=true:=by
  unfold B1
  rw [hr,Db,decide_eq_true rfl]
  refine List.all_eq_true.2 fun b hb=>?_
  obtain ⟨i,hi⟩:=List.mem_iff_getElem?.1 hb
  have hl:=CB hi
  rw [List.length_zipWith,Db] at hl
  obtain ⟨e,he⟩:=AC (l:=es) (i:=i) (by omega)
  rw [JD he (BM (f:=x) (by omega))] at hi
  injection hi with hi
  have h1:=hF.in' i (by show i<es.length; omega)
  unfold Cl at h1
  rw [Bn he] at h1
  rw [← hi]
  show inB e (x i)=true
  unfold inB
  rw [decide_eq_true h1.1,decide_eq_true h1.2]; rfl
 refine Gg.2 ⟨XE hw fun v hv=>?_,?_,MJ (JG hr) (XC hF hx) hq⟩
 ·rw [JC hx]
  exact ho v hv
 ·unfold E3
  rw [Db,decide_eq_true rfl,Bool.and_true,List.all_eq_true]
  intro y hy
  obtain ⟨i,hi⟩:=List.mem_iff_getElem?.1 hy
  obtain ⟨h1,rfl⟩:=MA hi
  have:=hp i h1
  unfold I8
  rw [Bool.and_eq_true,decide_eq_true_eq,decide_eq_true_eq]
  omega
/-! ### Rounds in memory -/
structure Rnd where
 no:Int
 day:Int
 cmp:Bool
 ids:List Int
 N:Int
 es:List Ed
 fl:List Int
 pot:List Int
structure RSl where
 aI:Option Addr
 cI:Nat
 aE:Option Addr
 cE:Nat
 aF:Option Addr
 cF:Nat
 aP:Option Addr
 cP:Nat
abbrev AH (r:Rnd) (q:RSl):List Value:=[.int .u64 r.no,.int .i64 r.day,.bool r.cmp,.slice q.aI r.ids.length q.cI,.int .i64 r.N,.slice q.aE r.es.length q.cE,.slice q.aF r.fl.length q.cF,.slice q.aP r.pot.length q.cP]
structure RAt (w:World) (r:Rnd) (q:RSl):Prop where
 I:Rd w q.aI 1 U1 r.ids
 E:Rd w q.aE 4 Bv r.es
 F:Rd w q.aF 1 I1 r.fl
 P:Rd w q.aP 1 I1 r.pot
 fc:r.fl.length≤q.cF
/-- A round's blocks are none of these. -/
structure ROff (q:RSl) (r:Rnd) (S:Nat→Prop):Prop where
 I:r.ids≠[]→¬ S (adr q.aI).block
 E:r.es≠[]→¬ S (adr q.aE).block
 F:r.fl≠[]→¬ S (adr q.aF).block
 P:r.pot≠[]→¬ S (adr q.aP).block
theorem RAt.ext {w w':World} {r:Rnd} {q:RSl} {S:List Nat} (h:RAt w r q) (he:Ext S w w') (hn:ROff q r (·∈S)):RAt w' r q :=
 ⟨h.I.ext' he hn.I,h.E.ext' he hn.E,h.F.ext' he hn.F,h.P.ext' he hn.P,h.fc⟩
theorem RAt.ext0 {w w':World} {r:Rnd} {q:RSl} (h:RAt w r q) (he:Ext [] w w'):RAt w' r q:=h.ext he ⟨fun _=>by simp,fun _=>by simp,fun _=>by simp,fun _=>by simp⟩
theorem ROff.mono {q:RSl} {r:Rnd} {S S':Nat→Prop} (h:ROff q r S) (hs:∀ x,S' x→S x):ROff q r S':=⟨fun g k=>h.I g (hs _ k),fun g k=>h.E g (hs _ k),fun g k=>h.F g (hs _ k),fun g k=>h.P g (hs _ k)⟩
theorem RAt.lt {w:World} {r:Rnd} {q:RSl} (h:RAt w r q):ROff q r (fun x=>w.heap.size≤x) :=
 ⟨fun g=>Nat.not_le.2 (h.I.lt' (fun _ _=>rfl) (by decide) g),fun g=>Nat.not_le.2 (h.E.lt' (fun _ _=>rfl) (by decide) g),fun g=>Nat.not_le.2 (h.F.lt' (fun _ _=>rfl) (by decide) g),fun g=>Nat.not_le.2 (h.P.lt' (fun _ _=>rfl) (by decide) g)⟩
/-- Accounts, to be read. -/
def AcAt (w:World) (t:TypeId) (bx:Nat) (acs:List Ac):Prop:=∃ a c,w.heap[bx]? = some (Bl t [.slice a acs.length c])∧Rd w a 2 encA acs
def DuAt (w:World) (bd:Nat) (ds:List Du):Prop:=∃ b nx o,w.heap[bd]? = some (Bl 123 (DU b nx))∧w.heap[b]? = some o∧J6 .u64 (dm ds) o
theorem AcAt.ext0 {w w':World} {t:TypeId} {bx:Nat} {acs:List Ac} (h:AcAt w t bx acs) (he:Ext [] w w'):AcAt w' t bx acs:=by
 obtain ⟨a,c,h1,h2⟩:=h
 exact ⟨a,c,he.to h1 (by simp),h2.ext0 he⟩
theorem DuAt.ext0 {w w':World} {bd:Nat} {ds:List Du} (h:DuAt w bd ds) (he:Ext [] w w'):DuAt w' bd ds:=by
 obtain ⟨b,nx,o,h1,h2,h3⟩:=h
 exact ⟨b,nx,o,he.to h1 (by simp),he.to h2 (by simp),h3⟩
end Go.Proofs.YtapphbmlkdhnmaaGreat

/- A round, planned: the walk. -/
namespace Go.Proofs.YtapphbmlkdhnmaaGreat
open Go.GV
attribute [local irreducible] A2 W Wq Wt

/-- What a plan is. -/
structure PlanR (acs:List Ac) (ds:List Du) (net:Bool) (r:Rnd):Prop where
 no:r.no=0
 day:r.day=0
 cmp:r.cmp=net
 ids:r.ids=(opn ds).map Du.id
 N:r.N=((acs.length+1:Nat):Int)
 es:r.es=Dg (acs.map GF) (opn ds) net
 chk:Ea r.N r.es r.fl r.pot=true
def rnd0:List Value:=[.int .u64 0,.int .i64 0,.bool false,.slice none 0 0,.int .i64 0,.slice none 0 0,.slice none 0 0,.slice none 0 0]
def PlanRes (w:World) (acs:List Ac) (ds:List Du) (net:Bool) (v:Value) (w':World):Prop :=
 Ext [] w w'∧((CV (acs.map GF) ds=false∧v = .tuple #[.agg rnd0.toArray,.int .i64 1]) ∨
  (CV (acs.map GF) ds=true∧∃ r q,v = .tuple #[.agg (AH r q).toArray,.int .i64 0]∧PlanR acs ds net r∧RAt w' r q∧ROff q r (fun x=>x<w.heap.size)))
end Go.Proofs.YtapphbmlkdhnmaaGreat

/- Whether a round is one of now: the walk. -/
namespace Go.Proofs.YtapphbmlkdhnmaaGreat
open Go.GV
attribute [local irreducible] A2 W Wq Wt

/-- A round's net, as a call gives it. -/
def Ady (w:World) (rs:List Int) (ds:List Du) (net:Bool) (N:Int) (aE:Option Addr) (nE:Nat) (vI:Value) (code:Int):Prop :=
 (CV rs ds=false∧code=1∧∃ aI nI cI,vI = .slice aI nI cI)∨(CV rs ds=true∧code=0∧N=((rs.length+1:Nat):Int)∧nE=(Dg rs (opn ds) net).length∧Rd w aE 4 Bv (Dg rs (opn ds) net)∧∃ aI cI,vI = .slice aI ((opn ds).map Du.id).length cI∧Rd w aI 1 U1 ((opn ds).map Du.id))
/-- A round that was made of accounts and dues, beside one that is held against it. -/
structure NowZ where
 b:Nat
 N:Int
 aE:Option Addr
 nE:Nat
 cE:Nat
 aI:Option Addr
 nI:Nat
 cI:Nat
 code:Int
def NowI (w0:World) (rs:List Int) (ds:List Du) (net:Bool) (b5:Nat) (o5:Obj) (z:NowZ) (w:World):Prop :=
 Ext [] w0 w∧w.heap[b5]? = some o5∧w.heap[z.b]? = some (Bl 28 [.int .i64 z.N,.slice z.aE z.nE z.cE])∧Ady w rs ds net z.N z.aE z.nE (.slice z.aI z.nI z.cI) z.code
def nowB (acs:List Ac) (ds:List Du) (r:Rnd):Bool :=
 CV (acs.map GF) ds && (decide (((acs.length+1:Nat):Int)=r.N) && (decide (Dg (acs.map GF) (opn ds) r.cmp=r.es) && decide ((opn ds).map Du.id=r.ids)))
end Go.Proofs.YtapphbmlkdhnmaaGreat

/- A round's pays, one by one: the closure. -/
namespace Go.Proofs.YtapphbmlkdhnmaaGreat
open Go.GV
attribute [local irreducible] A2 W Wq Wt

end Go.Proofs.YtapphbmlkdhnmaaGreat

/- A round, applied. -/
namespace Go.Proofs.YtapphbmlkdhnmaaGreat
open Go.GV
attribute [local irreducible] A2 W Wq Wt

theorem CF {w:World} {b:Nat} {t:TypeId} {l:List Value} (h:w.heap[b]? = some (Bl t l)) (o:Nat) (l':List Value) (hl:(l.drop o).take l'.length=l'):∀ j v,l'[j]? = some v→w.cell? ⟨b,o+j,none⟩=some v:=fun j v hv=>by
 rw [Ay h]
 have hj:=CB hv
 rw [← hl,List.getElem?_take,if_pos hj,List.getElem?_drop] at hv
 exact hv
theorem ROff.or {q:RSl} {r:Rnd} {S T:Nat→Prop} (h:ROff q r S) (k:ROff q r T):ROff q r (fun x=>S x∨T x) :=
 ⟨fun g x=>x.elim (h.I g) (k.I g),fun g x=>x.elim (h.E g) (k.E g),fun g x=>x.elim (h.F g) (k.F g),fun g x=>x.elim (h.P g) (k.P g)⟩
/-- What a right round says. -/
structure ApF (acs:List Ac) (ds:List Du) (r:Rnd):Prop where
 B:Bright (acs.map GF) ds
 N:r.N=(((acs.map GF).length+1:Nat):Int)
 es:r.es=Dg (acs.map GF) (opn ds) r.cmp
 ids:r.ids=(opn ds).map Du.id
 pay:PayIn (opn ds) (r.fl.take (opn ds).length)
 len:r.fl.length=r.es.length
 by':∀ (k:Nat) (a:Ac),acs[k]? = some a→(r.cmp=true→byK (acs.map GF) (opn ds) r.cmp r.fl k=0) ∧ -(GF a)≤byK (acs.map GF) (opn ds) r.cmp r.fl k∧byK (acs.map GF) (opn ds) r.cmp r.fl k≤4503599627370496
 sum:Bx (byK (acs.map GF) (opn ds) r.cmp r.fl) acs.length=0
 ok:Aaf ds ((opn ds).zip (r.fl.take (opn ds).length))
 all:payA ds ((opn ds).zip (r.fl.take (opn ds).length))=FT ds (r.fl.take (opn ds).length)
/-- What applying a round answers, and leaves. -/
def XF (acs:List Ac) (ds:List Du) (r:Rnd):Int:=if Ea r.N r.es r.fl r.pot=false then 1 else if nowB acs ds r=false then 3 else 0
def applyA (acs:List Ac) (ds:List Du) (r:Rnd):List Ac:=if XF acs ds r=0 then shA acs (tab (byK (acs.map GF) (opn ds) r.cmp r.fl) acs.length) else acs
def applyD (acs:List Ac) (ds:List Du) (r:Rnd):List Du:=if XF acs ds r=0 then FT ds (r.fl.take (opn ds).length) else ds
abbrev LX (bx:Nat) (a:Option Addr) (n c:Nat) (full:List Value) (bd b:Nat) (nx:Int) (o:Obj):List (Nat × Obj):=(bx,Bl 116 [.slice a n c])::(bd,Bl 123 (DU b nx))::(b,o)::ent a 64 full
structure AP7 where
 i:Nat
 o:Obj
end Go.Proofs.YtapphbmlkdhnmaaGreat

/- What a round keeps: plain law. -/
namespace Go.Proofs.YtapphbmlkdhnmaaGreat
open Go.GV
attribute [local irreducible] A2 W Wq Wt

/-- How a due weighs in a bank's place. -/
def plc (k:Nat) (d:Du):Int:=one (d.to=(k:Int)) - one (d.fr=(k:Int))
theorem KF {p q:Prop} [Decidable p] [Decidable q] (h:p↔q):one p=one q:=by
 by_cases hp:p
 ·rw [Hj hp,Hj (h.1 hp)]
 ·rw [GC hp,GC (fun hq=>hp (h.2 hq))]
/-- What a bank has, and is owed, less what it owes. -/
def placeN (acs:List Ac) (ds:List Du) (k:Nat):Int:=(acs.getD k a00).ba+EE (ds.map fun d=>plc k d*d.am)
theorem Km:∀ {ds:List Du} {xs:List Int} {e:Du},e∈FT ds xs→∃ d∈ds,e.id=d.id
 | [],_,_,h=>by cases h
 | d::ds,[],e,h=>⟨e,h,rfl⟩
 | d::ds,x::xs,e,h=>by
  unfold FT at h
  split at h
  ·rcases List.mem_cons.1 h with rfl | h
   ·exact ⟨_,List.mem_cons_self ..,rfl⟩
   ·obtain ⟨d',h1,h2⟩:=Km h
    exact ⟨d',List.mem_cons_of_mem _ h1,h2⟩
  ·split at h
   ·obtain ⟨d',h1,h2⟩:=Km h
    exact ⟨d',List.mem_cons_of_mem _ h1,h2⟩
   ·rcases List.mem_cons.1 h with rfl | h
    ·exact ⟨d,List.mem_cons_self ..,rfl⟩
    ·obtain ⟨d',h1,h2⟩:=Km h
     exact ⟨d',List.mem_cons_of_mem _ h1,h2⟩
/-- How far the dues and what is left of them are gone through. -/
def MgI (ds left:List Du) (i j:Nat):Prop:=j≤left.length∧∃ xs,PayIn (opn (ds.drop i)) xs∧left.drop j=FT (ds.drop i) xs
theorem MgI.start {ds:List Du} {xs:List Int} (h:PayIn (opn ds) xs):MgI ds (FT ds xs) 0 0:=⟨Nat.zero_le _,xs,h,rfl⟩
theorem HX {α:Type} {l:List α} {i:Nat} {x:α} (h:l[i]? = some x):l.drop i=x::l.drop (i+1):=by
 obtain ⟨h1,rfl⟩:=List.getElem?_eq_some_iff.1 h
 exact List.drop_eq_getElem_cons h1
theorem Od {α:Type} {l m:List α} {j:Nat} {x:α} (h:l.drop j=x::m):l[j]? = some x∧l.drop (j+1)=m:=by
 have h1:(l.drop j)[0]? = some x:=by rw [h]; rfl
 rw [List.getElem?_drop,Nat.add_zero] at h1
 refine ⟨h1,?_⟩
 rw [HX h1] at h
 injection h
theorem MgI.step {ds left:List Du} {i j:Nat} {d:Du} (hs:(ds.map (·.id)).Pairwise (·<·)) (h:MgI ds left i j) (hd:ds[i]? = some d) (hp:1≤d.am) :
  (∃ e,left[j]? = some e∧e.id=d.id∧e.am≤d.am∧1≤e.am∧(d.held=true→e=d)∧MgI ds left (i+1) (j+1)) ∨
  (d.held=false∧(∀ e,left[j]? = some e→e.id≠d.id)∧MgI ds left (i+1) j):=by
 obtain ⟨hj,xs,hP,hl⟩:=h
 rw [HX hd] at hP hl
 rw [QH] at hP
 by_cases hh:d.held=true
 ·rw [if_pos hh] at hP
  have hl':left.drop j=d::FT (ds.drop (i+1)) xs:=by
   rw [hl]; exact SH hh _ _
  obtain ⟨g1,g2⟩:=Od hl'
  exact .inl ⟨d,g1,rfl,Int.le_refl _,hp,fun _=>rfl,CB g1,xs,hP,g2⟩
 ·rw [if_neg hh] at hP
  obtain ⟨x,xs,rfl⟩:=PayIn.cons hP
  obtain ⟨⟨h0,h1⟩,hP⟩:=PayIn.tail hP
  rw [SJ hh] at hl
  by_cases hx:d.am=x
  ·rw [if_pos hx,List.nil_append] at hl
   refine .inr ⟨by simpa using hh,fun e he hid=>?_,hj,xs,hP,hl⟩
   have h3:=HX he
   rw [hl] at h3
   obtain ⟨d',hd',hid'⟩:=Km (e:=e) (by rw [h3]; exact List.mem_cons_self ..)
   have hs':((ds.drop i).map (·.id)).Pairwise (·<·):=by rw [List.map_drop]; exact hs.drop
   rw [HX hd,List.map_cons,List.pairwise_cons] at hs'
   have:=hs'.1 d'.id (List.mem_map_of_mem hd')
   omega
  ·rw [if_neg hx,List.cons_append,List.nil_append] at hl
   obtain ⟨g1,g2⟩:=Od hl
   exact .inl ⟨_,g1,rfl,by dsimp only; omega,by dsimp only; omega,fun h=>absurd h hh,CB g1,xs,hP,g2⟩
theorem MgI.ends {ds left:List Du} {j:Nat} (h:MgI ds left ds.length j):j=left.length:=by
 obtain ⟨hj,xs,-,hl⟩:=h
 rw [List.drop_length] at hl
 have:=congrArg List.length hl
 rw [List.length_drop] at this
 have h0:(FT [] xs).length=0:=rfl
 omega
end Go.Proofs.YtapphbmlkdhnmaaGreat

/- Nets that are the same but for the names: plain law of what a round is worth. -/
namespace Go.Proofs.YtapphbmlkdhnmaaGreat
open Go.GV
attribute [local irreducible] A2 W Wq Wt

/-- A sum, gone through in another order. -/
theorem TZ {F:Nat→Int} {E:Nat} {s:Nat→Nat} (h1:∀ i,i<E→s i<E) (h2:∀ i,i<E→s (s i)=i):Bx (fun i=>F (s i)) E=Bx F E:=by
 have e1:Bx (fun i=>F (s i)) E=Bx (fun i=>Bx (fun j=>one (s i=j)*F j) E) E:=C3 fun i hi=>(FY F (h1 i hi)).symm
 have e2:=M6 (fun i j=>one (s i=j)*F j) E E
 have e3:Bx (fun j=>Bx (fun i=>one (s i=j)*F j) E) E=Bx F E:=C3 fun j hj=>by
  have:Bx (fun i=>one (s i=j)*F j) E=Bx (fun i=>one (s j=i)*F j) E:=C3 fun i hi=>by
   rw [KF (p:=s i=j) (q:=s j=i) ⟨fun h=>by rw [← h,h2 i hi],fun h=>by rw [← h,h2 j hj]⟩]
  rw [this]
  exact FY (fun _=>F j) (h1 j hj)
 rw [e1,← e3]
 exact e2
/-- Two nets that are one but for the names of edges and nodes. -/
structure Twin (g g':Gr) (cap cap':Nat→Int) (s p:Nat→Nat):Prop where
 N:g'.N=g.N
 E:g'.E=g.E
 s1:∀ i,i<g.E→s i<g.E
 s2:∀ i,i<g.E→s (s i)=i
 p1:∀ v,v<g.N→p v<g.N
 p2:∀ v,v<g.N→p (p v)=v
 f:∀ i,i<g.E→g'.f (s i)=p (g.f i)
 t:∀ i,i<g.E→g'.t (s i)=p (g.t i)
 co:∀ i,i<g.E→g'.co (s i)=g.co i
 cap:∀ i,i<g.E→cap' (s i)=cap i
theorem Twin.symm {g g':Gr} {cap cap':Nat→Int} {s p:Nat→Nat} (hg':g'.Ok) (hg:g.Ok) (T:Twin g g' cap cap' s p):Twin g' g cap' cap s p :=
 ⟨T.N.symm,T.E.symm,fun i hi=>by rw [T.E] at hi ⊢; exact T.s1 i hi,fun i hi=>by rw [T.E] at hi; exact T.s2 i hi,
  fun v hv=>by rw [T.N] at hv ⊢; exact T.p1 v hv,fun v hv=>by rw [T.N] at hv; exact T.p2 v hv,
  fun i hi=>by
   rw [T.E] at hi
   have h:=T.f (s i) (T.s1 i hi)
   rw [T.s2 i hi] at h
   rw [h,T.p2 _ (hg.f _ (T.s1 i hi))],
  fun i hi=>by
   rw [T.E] at hi
   have h:=T.t (s i) (T.s1 i hi)
   rw [T.s2 i hi] at h
   rw [h,T.p2 _ (hg.t _ (T.s1 i hi))],
  fun i hi=>by
   rw [T.E] at hi
   have h:=T.co (s i) (T.s1 i hi)
   rw [T.s2 i hi] at h
   exact h.symm,
  fun i hi=>by
   rw [T.E] at hi
   have h:=T.cap (s i) (T.s1 i hi)
   rw [T.s2 i hi] at h
   exact h.symm⟩
theorem Twin.le {g g':Gr} {cap cap' x x' p':Nat→Int} {q:Nat→Int} {s p:Nat→Nat} (T:Twin g g' cap cap' s p) (hg:g.Ok) (h:Fine g cap x q) (h0:∀ v,v<g.N→B0 g x v=0) (h':Fine g' cap' x' p') (h0':∀ v,v<g'.N→B0 g' x' v=0):GA g x≤GA g' x':=by
 have hc:GA g (fun i=>x' (s i))=GA g' x':=by
  unfold GA
  rw [T.E,← TZ (F:=fun i=>x' i*g'.co i) T.s1 T.s2]
  exact C3 fun i hi=>by rw [T.co i hi]
 rw [← hc]
 refine Fine.best hg h h0 (fun i hi=>?_) fun v hv=>?_
 ·have h1:=h'.in' (s i) (by rw [T.E]; exact T.s1 i hi)
  rw [T.cap i hi] at h1
  exact h1
 ·have h1:=h0' (p v) (by rw [T.N]; exact T.p1 v hv)
  rw [← h1]
  unfold B0 E7
  rw [T.E,← TZ (F:=fun i=>(one (g'.t i=p v) - one (g'.f i=p v))*x' i) T.s1 T.s2]
  refine C3 fun i hi=>?_
  have hp:∀ u,u<g.N→(u=v↔p u=p v):=fun u hu=>⟨fun h=>by rw [h],fun h=>by rw [← T.p2 u hu,h,T.p2 v hv]⟩
  rw [T.t i hi,T.f i hi,KF (hp _ (hg.t i hi)),KF (hp _ (hg.f i hi))]
theorem Twin.eq {g g':Gr} {cap cap' x x' p':Nat→Int} {q:Nat→Int} {s p:Nat→Nat} (T:Twin g g' cap cap' s p) (hg:g.Ok) (hg':g'.Ok) (h:Fine g cap x q) (h0:∀ v,v<g.N→B0 g x v=0) (h':Fine g' cap' x' p') (h0':∀ v,v<g'.N→B0 g' x' v=0):GA g x=GA g' x' :=
 Int.le_antisymm (T.le hg h h0 h' h0') ((T.symm hg' hg).le hg' h' h0' h h0)
/-- The dues, named the other way round. -/
def flip (n:Nat) (a b:Du):Du:={ b with id:=a.id,fr:=(n:Int) - 1 - b.fr,to:=(n:Int) - 1 - b.to }
def turnD (n:Nat) (ds:List Du):List Du:=List.zipWith (flip n) ds ds.reverse
def mirE (n:Nat) (e:Ed):Ed:={ e with f:=(n:Int) - 1 - e.f,t:=(n:Int) - 1 - e.t }
/-- Where an edge lies in the other one. -/
def sigN (n m i:Nat):Nat:=if i<m then m - 1 - i else m+(2*(n - 1 - (i - m) / 2)+(i - m) % 2)
def piN (n v:Nat):Nat:=if v<n then n - 1 - v else v
end Go.Proofs.YtapphbmlkdhnmaaGreat

/- What planned rounds are worth: plain law. -/
namespace Go.Proofs.YtapphbmlkdhnmaaGreat
open Go.GV
attribute [local irreducible] A2 W Wq Wt

def costR (r:Rnd):Int:=GA (grE r.N r.es) (flE r.fl)
theorem Vp {N:Int} {es:List Ed} {fl:List Int} (k:Nat):Bx (fun i=>flE fl i*(grE N es).co i) (k+1)=Bx (fun i=>flE fl i*(grE N es).co i) k+flE fl k*(grE N es).co k:=rfl
theorem QN {N:Int} {es:List Ed} {fl:List Int} (hw:B1 N es fl=true):∀ k,k≤es.length → -((DI (es.take k):Nat):Int)≤Bx (fun i=>flE fl i*(grE N es).co i) k∧Bx (fun i=>flE fl i*(grE N es).co i) k≤((DI (es.take k):Nat):Int)
 | 0,_=>by
  show -((0:Nat):Int)≤0∧(0:Int)≤((0:Nat):Int)
  omega
 | k+1,hk=>by
  have ih:=QN hw k (by omega)
  obtain ⟨hl,-,hin⟩:=BE hw
  obtain ⟨e,he⟩:=AC (l:=es) (i:=k) (by omega)
  obtain ⟨x,hx⟩:=AC (l:=fl) (i:=k) (by omega)
  have h1:=hin k e x he hx
  have hp:(x*e.cost).natAbs≤EG e:=by
   rw [Int.natAbs_mul]
   exact Nat.mul_le_mul_right _ (by omega)
  rw [Vp,HM he,X7 he]
  unfold flE at ih ⊢
  rw [Bn hx]
  obtain ⟨z,hz⟩:∃ z,z=x*e.cost:=⟨_,rfl⟩
  rw [← hz] at hp ⊢
  omega
theorem Z7 {N:Int} {es:List Ed} {fl:List Int} (hw:B1 N es fl=true) {k:Nat} (hk:k≤es.length) : -4611686018427387904≤Bx (fun i=>flE fl i*(grE N es).co i) k∧Bx (fun i=>flE fl i*(grE N es).co i) k≤4611686018427387904:=by
 have h1:=QN hw k hk
 have h2:=(BR (BE hw).2.1).2.2.2.2
 have h3:=HN es k
 omega
theorem Ua {N:Int} {es:List Ed} {fl:List Int} (hw:B1 N es fl=true) {i:Nat} {e:Ed} {x:Int} (he:es[i]? = some e) (hx:fl[i]? = some x) : -4611686018427387904≤e.cost*x∧e.cost*x≤4611686018427387904:=by
 have h1:=(BE hw).2.2 i e x he hx
 have h2:=(BR (BE hw).2.1).2.2.2.2
 have h3:=HN es (i+1)
 rw [HM he] at h3
 have hp:(x*e.cost).natAbs≤EG e:=by
  rw [Int.natAbs_mul]
  exact Nat.mul_le_mul_right _ (by omega)
 rw [Int.mul_comm]
 omega
end Go.Proofs.YtapphbmlkdhnmaaGreat
