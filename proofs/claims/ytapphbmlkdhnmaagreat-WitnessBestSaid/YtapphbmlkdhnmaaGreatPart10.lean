/- Part 10 of the proof. -/
import Derived.Test.YtapphbmlkdhnmaaGreatPart2
import Derived.Test.YtapphbmlkdhnmaaGreatPart9
import Derived.Test.YtapphbmlkdhnmaaGreatPart3
import Derived.Test.YtapphbmlkdhnmaaGreatPart4
import Derived.Test.YtapphbmlkdhnmaaGreatPart7
/- A round's net, built: the walk. -/
namespace Go.Proofs.YtapphbmlkdhnmaaGreat
open Go.GV
attribute [local irreducible] A1 W Wq Wt

/-- Three results, the first in a cell, behind marks. -/
theorem QK {P:Program} {e:Env} {w:World} {fn:Func} {R:Value→World→Prop} {a s2 s3:Tmp} {t:TypeId} {p:Addr} {v2 v3:Value} (hr:fn.results=#[.cell a t,.tmp s2,.tmp s3]) (ha:e.g a = .pointer (some p)) (h2:e.g s2=v2) (h3:e.g s3=v3) (h:Marks e.ds w fun w'=>∃ v,(loadVar t p).run P w' = .ok v w'∧R (.tuple #[v,v2,v3]) w'):Qa P fn R .ret e w :=
 Marks.mono (fun w ⟨v,hv,h⟩ tmps ht=>by
  have h1:=(ht a).trans ha
  have g2:=(ht s2).trans h2
  have g3:=(ht s3).trans h3
  rw [Array.getD_eq_getD_getElem?] at h1 g2 g3
  exact ⟨.tuple #[v,v2,v3],by simp [results,hr,h1,g2,g3,asAddr,hv],h⟩) h
/-- What a round's net is. -/
def Xz (w:World) (rs:List Int) (ds:List Du) (net:Bool) (v:Value) (w':World):Prop :=
 Ext [] w w'∧((CS rs ds=false∧v = .tuple #[DI 0 none 0 0,.slice none 0 0,.int .i64 1]) ∨
  (CS rs ds=true∧∃ aE nE cE vI,v = .tuple #[DI ((rs.length+1:Nat):Int) aE nE cE,vI,.int .i64 0]∧Sl w w' (.slice aE nE cE) 4 B6 (Bt rs (opn ds) net)∧Sl w w' vI 1 U1 ((opn ds).map Du.id)))
/-- What the rounds leave. -/
def rndJ (ws:World) (b6:Nat) (N:Int) (es:List Ed) (i:Nat) (M:Mt) (w:World):Prop :=
 ∃ a c full,(M=fun y=>y∈((b6,Bl 28 [.int .i64 N,.slice a i c])::ent a 92 full).map (·.1))∧Ctx ws [b6] w ((b6,Bl 28 [.int .i64 N,.slice a i c])::ent a 92 full) ∧
  OS a i c 4 full ((es.take i).flatMap B6)∧∀ y∈((b6,Bl 28 [.int .i64 N,.slice a i c])::ent a 92 full).map (·.1),y≠ws.heap.size∧y≠ws.heap.size+1
set_option maxRecDepth 20000 in
set_option maxHeartbeats 4000000 in
theorem Oc (a b:Option Addr) (n c m e:Nat) (rs:List Int) (ds:List Du) (net:Bool) (w:World) (R:Rd w a 1 I1 rs) (hn:rs.length=n) (hn2:n≤1000000) (Rd':Rd w b 7 CP ds) (hm:ds.length=m) (hm2:m≤1000000) :
  Ret Tryz.prog 58 #[.slice a n c,.slice b m e,.bool net] w (Xz w rs ds net):=by
 subst hn hm
 obtain ⟨w0,rfl⟩:∃ w0,w0=w:=⟨_,rfl⟩
 have H:=Ctx.start w0 []
 obtain ⟨bb,hbb⟩:∃ bb,bb=CS rs ds:=⟨_,rfl⟩
 obtain ⟨os,hos⟩:∃ os,os=opn ds:=⟨_,rfl⟩
 have hol:os.length≤ds.length:=by rw [hos]; exact Km ds
 refine Gg (fn:=Tryz.f58) Tryz.func58 rfl [.slice a rs.length c,.slice b ds.length e,.bool net] rfl (by kernel_rfl) ?_
 refine Af (Bo rfl T7 H ?_)
 rintro b6 w - H
 refine A6 rfl rfl (Ae rfl rfl (Ab (Aa (Aq (Af (Ak rfl rfl (Ak rfl rfl (Al rfl Wd (NX a b _ c _ e rs ds _ (R.ext0 H.ext) rfl hn2 (Rd'.ext0 H.ext) rfl hm2) rfl ?_))))))))
 rintro v w ⟨rfl,hx14⟩
 replace H:=H.call hx14
 rw [← hbb]
 refine Bv rfl rfl (Ab (Aa (Ax _ rfl ?_ ?_)))
 ·intro h1
  replace h1:=B0 h1
  refine Af (Bq rfl CX CJ rfl H at0 rfl (BP rfl CJ rfl rfl rfl (by simp [Bu]) H at0 rfl ?_))
  rintro w H
  refine A6 rfl rfl (Ae rfl rfl (Ab (Aa (A9 (Am (QK rfl rfl rfl rfl ?_))))))
  exact ⟨_,EU CX CJ rfl (fun j v hv=>by rw [An (H.get at0),Nat.zero_add]; exact hv),H.ext,.inl ⟨by rw [← hbb]; exact h1,rfl⟩⟩
 ·intro h1
  replace h1:=B1 h1
  refine Aw (Aa (Af (Ak rfl rfl (Be rfl AX rfl (Ao rfl rfl rfl (by omega) (by omega) ?_)))))
  refine Ah rfl Fm rfl (BV (.int _ _) rfl ED rfl rfl rfl H at0 (by decide) ?_)
  rintro w H
  refine Ab (Aa (Af (Ak rfl rfl (Al rfl Sc (Pt b _ e ds _ (Rd'.ext0 H.ext) rfl hm2) rfl ?_))))
  rintro v w F
  rw [← hos] at F
  obtain ⟨a4,n4,c4,f4,rfl,O4,hb4⟩:=F.ex
  have hl4:=O4.llen
  rw [MN] at hl4
  obtain rfl:os.length=n4:=by omega
  refine A6 rfl rfl (Ab (Aa (Aq ?_)))
  have hb6:=H.lt at0
  have RO:Rd w a4 7 CP os:=OS.rd O4 (fun y hy=>(hb4 y hy).1) (fun _ _=>rfl) (by omega)
  have hROn:os≠[]→(adr a4).block∉[b6]:=fun hne=>by
   obtain ⟨q,rfl⟩:=O4.form (List.length_pos_iff.2 hne)
   have:=(hb4 (q,Bl 62 f4) (List.mem_singleton.2 rfl)).2
   rw [List.mem_singleton]
   show q≠b6
   dsimp only at this
   omega
  have H4:=H.call F.ext
  have hs4:=H4.size
  have hl64:=H4.lt at0
  obtain ⟨w4,rfl⟩:∃ z,z=w:=⟨_,rfl⟩
  have H:=Ctx.lend (L1:=[_]) (L2:=[]) H4
  dsimp only [List.map] at H
  refine Af (Ak rfl rfl (Be rfl CC rfl (Ad rfl rfl (Ab (Aa (Av (Bm 34326185088 (α:=LSt) (fun t=>[(7,.slice t.a t.i t.c),(25,.int .i64 (t.i:Int))]) (fun t w'=>t.i≤os.length∧OS t.a t.i t.c 1 t.full (((os.take t.i).map Du.id).map EP)∧Ctx w4 [b6] w' ((b6,Bl 28 [.int .i64 ((rs.length:Int)+1),.slice none 0 0])::ent t.a 24 t.full)) (fun t=>os.length - t.i) ⟨0,none,0,[]⟩ rfl ?_ ?_ ?_)))))))
  ·exact ⟨rfl,rfl,trivial⟩
  ·exact ⟨Nat.zero_le _,OS.nil,H⟩
  ·clear H
   rintro ⟨i,a2,c2,full⟩ jj w ⟨hi,O,H⟩; dsimp only at hi O H; dsimp only
   refine Af (AV rfl rfl rfl (Ab (Aa (Aq (Ax _ rfl ?_ ?_)))))
   ·intro h3
    replace h3:=AE h3
    obtain ⟨d,hd⟩:=A4 (l:=os) (i:=i) (by omega)
    refine Aw (Aa (Aq (Av (Af (Ba RO rfl CC CA rfl rfl (by omega) (by omega) (by rfl) ?_)))))
    refine Cx _ rfl GJ CA rfl rfl ((RO.ext' H.ext hROn).row hd rfl) ?_
    refine Bo rfl Fp H ?_
    rintro b10 w - H
    refine BP rfl CA rfl rfl rfl (by exact Ez _) H at0 rfl ?_
    rintro w H
    refine Ab (Aa (Ap (Ak rfl rfl (Ah rfl IZ rfl (AM rfl BD rfl H at0 rfl (Db _ (.int _ _) rfl Bd AZ M1 rfl (by decide) (by decide) rfl rfl rfl H ?_))))))
    rintro b32 w - H
    refine Dc (L:=[_,_]) rfl Bd Bd AZ Wa M1 rfl (by decide) rfl rfl H O rfl (by simp [Bu]) (by omega) ?_
    rintro a' c' full' w H O
    refine A6 rfl rfl (Ab (A2 (Aa (Ap (Ao rfl rfl rfl (by omega) (by omega) ?_)))))
    refine Ad rfl rfl (Ab (Aa ?_))
    exact ⟨⟨i+1,a',c',full'⟩,rfl,⟨rfl,rfl,trivial⟩,⟨by dsimp only; omega,by dsimp only; rw [Xs hd,List.map_append]; exact O,H.tail⟩,by dsimp only; omega⟩
   ·intro h3
    replace h3:=AF h3
    obtain rfl:i=os.length:=by omega
    rw [List.take_length] at O
    refine Bh (Aj (Aj (AB (Aa (Aq (Af (Ak rfl rfl (Ak rfl rfl (Ay rfl rfl (Al rfl Aa3 (Vf a a4 _ c _ c4 net _) rfl ?_))))))))))
    rintro v w ⟨x1,x2,x3,rfl,H10⟩
    have H5:=H.call H10.ext
    refine Ab (Aa (Av ?_))
    have RI0:Rd w a2 1 U1 (os.map Du.id):=O.rd1 fun x hx=>H5.blk x (List.mem_cons_of_mem _ hx)
    have hRIn:os.map Du.id≠[]→w4.heap.size≤(adr a2).block:=fun hne=>by
     obtain ⟨q,rfl⟩:=O.form (by have:=List.length_pos_iff.2 hne; rw [List.length_map] at this; exact this)
     rcases H.own (q,Bl 24 full) (List.mem_cons_of_mem _ (List.mem_singleton.2 rfl)) with h | h
     ·exact absurd (List.mem_singleton.1 h) fun h=>H.ne (i:=1) (j:=0) rfl rfl (by decide) h
     ·exact h
    have hk1:=H10.get at1
    have hk2:=H10.get at0
    have hk3:=H10.get at2
    have ho1:=(H10.own _ (List.mem_of_getElem? at1)).elim (fun h=>by cases h) id
    have ho2:=(H10.own _ (List.mem_of_getElem? at0)).elim (fun h=>by cases h) id
    have ho3:=(H10.own _ (List.mem_of_getElem? at2)).elim (fun h=>by cases h) id
    dsimp only at ho1 ho2 ho3
    have hl6:=H.lt at0
    have hs5:=H5.size
    have hx5:=H4.ext.then H5.ext fun x hx => .inr (by rw [List.mem_singleton.1 hx]; exact (H4.own _ (List.mem_of_getElem? at0)).elim (fun h=>by cases h) id)
    have hb60:w0.heap.size≤b6:=(H4.own _ (List.mem_of_getElem? at0)).elim (fun h=>by cases h) id
    have RR:=R.ext0 hx5
    have RO5:=RO.ext' H5.ext hROn
    have hwe:∀ d∈os,-1000000000≤d.we∧d.we≤1000000000:=fun d hd=>by
     rw [hbb] at h1
     have hB:=(G6 (by omega)).1 h1
     rw [hos] at hd
     have:=(DM (hB.due d (Py hd).1).1).2.2.2.2.1
     omega
    obtain ⟨ws,rfl⟩:∃ z,z=w:=⟨_,rfl⟩
    have H:=Ctx.lend (L1:=[_]) (L2:=_) H5
    dsimp only [List.map] at H
    obtain ⟨es,hes⟩:∃ es,es=Bt rs os net:=⟨_,rfl⟩
    have hnR:rs≠[]→(adr a).block∉[b6]:=fun hne=>by
     have:=R.lt' (fun _ _=>rfl) (by decide) hne
     rw [List.mem_singleton]; omega
    have heL:es.length≤3000000:=by rw [hes,GM]; split <;> omega
    refine JR (gf:=162) rfl Abo (SF (b1:=x1) (b2:=x2) (b3:=x3) (a:=a) (b:=a4) (c:=c) (e:=c4) (rs:=rs) (ds:=os) (net:=net) rfl rfl hn2 (by omega) hwe) (by kernel_rfl) (by kernel_rfl) (fun v hv=>by obtain ⟨p,-,rfl⟩:=List.mem_map.1 hv; rfl)
     (rndJ ws b6 ((rs.length:Int)+1) es) (fun _=>False) (by simp)
     (fun w2 hx2 _=>⟨_,none,0,[],rfl,H.call hx2,OS.nil,by simp [ent]; omega⟩)
     (fun i M w' w'' hJ hx=>?_) (fun _ _ h _=>h) (fun i M w' hJ=>?_) ?_ ?_ (fun _ h _=>h.elim)
    ·obtain ⟨a7,c7,f7,hM,HJ,O7,hne⟩:=hJ
     refine ⟨a7,c7,f7,hM,HJ.step hx (fun y hy hy2=>?_) (fun x hx => .inr ?_),O7,hne⟩
     ·have:=hne _ (List.mem_map_of_mem (f:=(·.1)) hy)
      simp only [List.mem_cons,List.not_mem_nil,or_false] at hy2
      omega
     ·simp only [List.mem_cons,List.not_mem_nil,or_false] at hx
      omega
    ·obtain ⟨a7,c7,f7,hM,HJ,O7,hne⟩:=hJ
     refine ⟨fun x hx=>?_,HJ.ext.to hk1 (by rw [List.mem_singleton]; omega),HJ.ext.to hk2 (by rw [List.mem_singleton]; omega),HJ.ext.to hk3 (by rw [List.mem_singleton]; omega),RR.ext' HJ.ext hnR,RO5.ext' HJ.ext hROn⟩
     rw [hM] at hx
     obtain ⟨y,hy,rfl⟩:=List.mem_map.1 hx
     exact ⟨Bp (HJ.blk y hy),hne _ hx⟩
    ·rintro i v M w hxv ⟨a7,c7,f7,rfl,HJ,O7,hne⟩ hsz
     rw [List.getElem?_map] at hxv
     obtain ⟨ed,hed,rfl⟩:=Option.map_eq_some_iff.1 hxv
     rw [← hes] at hed
     have hil:=Cr hed
     obtain ⟨w1,rfl⟩:∃ z,z=w:=⟨_,rfl⟩
     have H:=Ctx.start w1 []
     refine Ap (Bo rfl Es H ?_)
     rintro b11 w - H
     refine BP rfl Ci rfl rfl rfl (by exact DQ _) H at0 rfl ?_
     rintro w H
     refine Ab ?_
     refine ⟨H.ext,fun wB hxB=>?_⟩
     have hb11:=(H.own _ (List.mem_cons_self ..)).elim (fun h=>by cases h) id
     dsimp only at hb11
     have hs1:=H.size
     have hsB:=hxB.size
     have HB:=(HJ.callAdd H.ext (H.get at0) hb11).step hxB (fun y hy=>by
      rw [List.mem_singleton]
      rcases List.mem_cons.1 hy with rfl | hy
      ·dsimp only; omega
      ·exact (hne _ (List.mem_map_of_mem (f:=(·.1)) hy)).2) (fun z hz => .inr (by rw [List.mem_singleton.1 hz]; omega))
     obtain ⟨w2,rfl⟩:∃ z,z=wB:=⟨_,rfl⟩
     rw [← List.append_nil (_::_::ent a7 92 f7)] at HB
     have H:=Ctx.lend (L1:=_::_::ent a7 92 f7) (L2:=[]) HB
     obtain ⟨SS,hSS⟩:∃ SS,SS=((b11,Bl 92 (B6 ed))::(b6,Bl 28 [.int .i64 ((rs.length:Int)+1),.slice a7 i c7])::ent a7 92 f7).map (·.1):=⟨_,rfl⟩
     rw [← hSS] at H
     refine Av (Ap (Ah rfl CR rfl (AM rfl Ec rfl H at1 rfl (Bq rfl EW Ci rfl H at0 rfl (Db _ (.agg _) rfl C9 Ci Es rfl (by decide) (by decide) rfl rfl rfl H ?_)))))
     rintro b43 w - H
     refine Dc (L:=[_,_]) rfl C9 C9 Ci Wc Es rfl (by decide) rfl rfl H O7 rfl (DQ ed) (by omega) ?_
     rintro a' c' full' w H O
     refine Ah rfl CR rfl (BV (.slice _ _ _) rfl ZV rfl rfl rfl H at1 (by (simp; done)) ?_)
     rintro w H
     refine Ab (A2 ?_)
     rw [hSS] at H
     have HE:=H.ext
     have HH:=Ctx.back HB H
     rw [List.append_nil] at HH
     refine ⟨_,⟨a',c',full',rfl,HH.tail,by rw [List.take_add_one,hed,List.flatMap_append]; exact O,fun y hy=>?_⟩,fun y hy=>?_,_,HE,fun y hy=>?_⟩
     ·obtain ⟨z,hz,rfl⟩:=List.mem_map.1 hy
      rcases H.own z (List.mem_cons_of_mem _ hz) with h | h
      ·rcases List.mem_cons.1 h with h | h
       ·dsimp only at h; omega
       ·exact hne _ h
      ·have:=hxB.size; have:=H.ext.size; omega
     ·obtain ⟨z,hz,rfl⟩:=List.mem_map.1 hy
      rcases H.own z (List.mem_cons_of_mem _ hz) with h | h
      ·rcases List.mem_cons.1 h with h | h
       ·exact .inr (by dsimp only at h; omega)
       ·exact .inl h
      ·exact .inr (by have:=hxB.size; omega)
     ·rcases List.mem_cons.1 hy with h | h
      ·exact .inr (by dsimp only at h; omega)
      ·exact .inl h
    ·rintro M w ⟨a7,c7,f7,rfl,HJ,O7,hne⟩ hD
     rw [List.length_map,← hes] at HJ O7 hne
     rw [List.take_length] at O7
     have H:=HJ
     obtain ⟨w1,rfl⟩:∃ z,z=w:=⟨_,rfl⟩
     rw [← List.append_nil (_::ent a7 92 f7)] at HJ
     have H:=Ctx.lend (L1:=_::ent a7 92 f7) (L2:=[]) HJ
     obtain ⟨SS,hSS⟩:∃ SS,SS=((b6,Bl 28 [.int .i64 ((rs.length:Int)+1),.slice a7 es.length c7])::ent a7 92 f7).map (·.1):=⟨_,rfl⟩
     rw [← hSS] at H hne
     have hDn:ws.heap.size∉SS:=fun h=>(hne _ h).1 rfl
     refine A2 (Aa (Af (Bq rfl CX CJ rfl H at0 rfl (Ak rfl rfl (BP rfl CJ rfl rfl rfl (by simp [Bu]) H at0 rfl ?_)))))
     rintro w H
     refine A6 rfl rfl (Ae rfl rfl (Ab (Aa (A9 (QK rfl rfl rfl rfl ?_)))))
     refine Gh (H.ext.to hD hDn) rfl fun wF hxF=>?_
     rw [hSS] at H
     have HH:=Ctx.back HJ H
     rw [List.append_nil] at HH
     rw [hSS] at hne
     have HF:=HH.step hxF (fun y hy h=>(hne _ (List.mem_map_of_mem (f:=(·.1)) hy)).1 (List.mem_singleton.1 h)) (fun z hz => .inr (by rw [List.mem_singleton.1 hz]; omega))
     have hown:∀ y∈((b6,Bl 28 [.int .i64 ((rs.length:Int)+1),.slice a7 es.length c7])::ent a7 92 f7),w0.heap.size≤y.1:=fun y hy=>by
      rcases HF.own y hy with h | h
      ·rw [List.mem_singleton.1 h]; exact hb60
      ·have:=hx5.size; omega
     have hxx:=hx5.then HF.ext fun x hx => .inr (by rw [List.mem_singleton.1 hx]; exact hb60)
     refine ⟨_,EU CX CJ rfl (fun j v hv=>by rw [An (HF.get at0),Nat.zero_add]; exact hv),hxx,.inr ⟨by rw [← hbb]; exact h1,a7,es.length,c7,.slice a2 os.length c2,rfl,?_,?_⟩⟩
     ·rw [← hos,← hes]
      refine ⟨a7,c7,rfl,O7.le,OS.rd O7 (fun x hx=>HF.blk x (List.mem_cons_of_mem _ hx)) (fun _ _=>rfl) (by decide),fun hne'=>?_⟩
      obtain ⟨q,rfl⟩:=O7.form (List.length_pos_iff.2 hne')
      exact hown (q,Bl 92 f7) (List.mem_cons_of_mem _ (List.mem_singleton.2 rfl))
     ·rw [← hos]
      have hd4:os.map Du.id≠[]→w4.heap.size≤(adr a2).block:=hRIn
      refine ⟨a2,c2,by rw [List.length_map],by rw [List.length_map]; exact O.le,RI0.ext' HF.ext (fun hne'=>?_),fun hne'=>?_⟩
      ·have:=hRIn hne'
       rw [List.mem_singleton]; omega
      ·have:=hRIn hne'
       omega
end Go.Proofs.YtapphbmlkdhnmaaGreat

/- Nets, as the reference has them: Right, Within. -/
namespace Go.Proofs.YtapphbmlkdhnmaaGreat
open Go.GV
attribute [local irreducible] A1 W Wq Wt

end Go.Proofs.YtapphbmlkdhnmaaGreat

/- Flows, as the reference has them: Over, Flows. -/
namespace Go.Proofs.YtapphbmlkdhnmaaGreat
open Go.GV
attribute [local irreducible] A1 W Wq Wt

/-- What is over at the first nodes. -/
def ovI (g:Gr) (x:Nat→Int) (v i q:Nat):Int:=if q<v then Bs g x q else if q=v then D3 g x i v else 0
end Go.Proofs.YtapphbmlkdhnmaaGreat

/- Arcs, and whether what flows is the best, as the reference has them. -/
namespace Go.Proofs.YtapphbmlkdhnmaaGreat
open Go.GV
attribute [local irreducible] A1 W Wq Wt

end Go.Proofs.YtapphbmlkdhnmaaGreat

/- A round's net, as the reference has it. -/
namespace Go.Proofs.YtapphbmlkdhnmaaGreat
open Go.GV
attribute [local irreducible] A1 W Wq Wt

/-- Two slices that grow. -/
structure LS2 where
 i:Nat
 a:Option Addr
 c:Nat
 f:List Value
 a2:Option Addr
 c2:Nat
 f2:List Value
end Go.Proofs.YtapphbmlkdhnmaaGreat

/- The best flow: the walk. -/
namespace Go.Proofs.YtapphbmlkdhnmaaGreat
open Go.GV
attribute [local irreducible] A1 W Wq Wt

theorem perm5 {α:Type} {a b c d e:α} {r:List α}:(a::b::c::d::e::r).Perm (d::a::e::b::c::r) :=
 (List.perm_middle (l₁:=[a,b,c]) (l₂:=e::r)).trans (((List.perm_middle (l₁:=[b,c]) (l₂:=r)).cons _).cons _)
/-- Numbers that are 0 beyond the table. -/
theorem QL (f:Nat→Int) (n:Nat):∃ f1:Nat→Int,B5 f n=B5 f1 n∧flE (tab f1 n)=f1∧Em (tab f1 n)=f1∧∀ i,i<n→f1 i=f i:=by
 refine ⟨fun i=>if i<n then f i else 0,List.map_congr_left fun i hi=>by dsimp only; rw [if_pos (List.mem_range.1 hi)],?_,?_,fun i hi=>if_pos hi⟩
 all_goals
  funext i
  first | unfold flE | unfold Em
  rcases Nat.lt_or_ge i n with h | h
  ·rw [AU (B4 h)]
  ·rw [List.getD_eq_getElem?_getD,List.getElem?_eq_none (by rw [Cy]; exact h)]
   exact (if_neg (by omega)).symm
theorem X1 {g:Gr} {cap x y p:Nat→Int} (h:Fine g cap x p) (hy:∀ i,i<g.E→y i=x i):Fine g cap y p:=by
 refine ⟨fun i hi=>by rw [hy i hi]; exact h.in' i hi,fun a ha hr=>h.fit a ha ?_⟩
 unfold Cz at hr ⊢
 rw [hy _ (by omega)] at hr
 exact hr

theorem Adq {w:World} {bs bf bp bo:Nat} {N n:Nat} {ae:Option Addr} {ce:Nat} {kk:Int} {es:List Ed} {x p ov:Nat→Int} {full:List Value} {g:Gr} {cap:Nat→Int} (hn:es.length=n) (hg:grE (N:Int) es=g) (hcap:∀ i,i<n→BZ es i=cap i) (H0:Ctx w ((SL bs bf bp bo N ae n ce kk x p ov full).map (·.1)) w (SL bs bf bp bo N ae n ce kk x p ov full)) (O:OS ae n ce 4 full (es.flatMap B6))
  (hr:Cj (N:Int) es=true) (hF:Fine g cap x p) (hov:∀ v,v<N→ov v=Bs g x v) (hpb:∀ v,v<N → -1073741824≤p v∧p v≤1073741824) :
  Ret Tryz.prog 120 #[ptr bs] w fun v w'=>∃ (b:Bool) (x' p' ov':Nat→Int) (kk':Int),v = .bool b∧Ctx w ((SL bs bf bp bo N ae n ce kk x p ov full).map (·.1)) w' (SL bs bf bp bo N ae n ce kk' x' p' ov' full)∧Fine g cap x' p'∧(∀ v,v<N→ov' v=Bs g x' v)∧(∀ v,v<N → -1073741824≤p' v∧p' v≤1073741824) ∧
   (b=false→∀ v,v<N→Bs g x' v≤0)∧(b=true→G1 g x'+1≤G1 g x):=by
 subst hn hg
 obtain ⟨x1,hx1,hxn,-,hxe⟩:=QL x es.length
 obtain ⟨p1,hp1,-,hpn,hpe⟩:=QL p N
 have hgo:=HQ hr
 have hsl:SL bs bf bp bo N ae es.length ce kk x p ov full=SL bs bf bp bo N ae es.length ce kk x1 p1 ov full:=by unfold SL; rw [hx1,hp1]
 have hF1:Fine (grE (N:Int) es) (BZ es) x1 p1:=MH hgo (X1 (KL hF hcap) hxe) hpe
 have hov1:∀ v,Bs (grE (N:Int) es) x1 v=Bs (grE (N:Int) es) x v:=fun v=>J6 hxe v
 have hex:G1 (grE (N:Int) es) x1=G1 (grE (N:Int) es) x:=BU fun v _=>by rw [hov1]
 rw [hsl] at H0 ⊢
 refine Ret.mono (Zm H0 O hr hF1 (fun v hv=>by rw [hov1]; exact hov v hv) (fun v hv=>by rw [hpe v hv]; exact hpb v hv) hxn hpn) ?_
 rintro v w' ⟨b,x',p',ov',kk',h1,h2,h3,h4,h5,h6,h7⟩
 exact ⟨b,x',p',ov',kk',h1,h2,KL h3 fun i hi=>(hcap i hi).symm,h4,h5,h6,fun h=>by rw [← hex]; exact h7 h⟩
theorem X2 (g:Gr) (v:Nat):Bs g (fun _=>0) v=0:=by
 have:Bs g (fun _=>0) v=Bn (fun _=>0) g.E:=BU fun i _=>by rw [Int.mul_zero]
 rw [this,FN]
structure PSt where
 j:Nat
 full:List Value
 x:Nat→Int
 p:Nat→Int
 ov:Nat→Int
 kk:Int
structure FSt where
 x:Nat→Int
 p:Nat→Int
 ov:Nat→Int
 kk:Int

set_option maxRecDepth 20000 in
set_option maxHeartbeats 8000000 in
theorem Zt (N:Nat) (a:Option Addr) (c:Nat) (es:List Ed) (w:World) (R:Rd w a 4 B6 es) (hr:Cj (N:Int) es=true) :
  Ret Tryz.prog 59 #[DI (N:Int) a es.length c] w fun v w'=>∃ (bf bp:Nat) (x p:Nat→Int) (k:Int),v = .tuple #[Q3 (some ⟨bf,0,none⟩) (some ⟨bp,0,none⟩) es.length es.length N N,.int .i64 k,.int .i64 0]∧Fine (grE (N:Int) es) (BZ es) x p∧(∀ v,v<N→Bs (grE (N:Int) es) x v=0)∧(∀ v,v<N → -1073741824≤p v∧p v≤1073741824)∧Ctx w [] w' [(bf,Bl 2 (B5 x es.length)),(bp,Bl 2 (B5 p N))]:=by
 obtain ⟨w0,rfl⟩:∃ w0,w0=w:=⟨_,rfl⟩
 have H:=Ctx.start w0 []
 obtain ⟨hN1,hN40,hn200,hall,-⟩:=BX hr
 have hI:I64 (N:Int):=by unfold I64; omega
 refine A0 (fn:=Tryz.f59) Tryz.func59 rfl [DI (N:Int) a es.length c] rfl (by kernel_rfl) ?_
 refine Af (B2 rfl [.int .i64 (N:Int),.slice a es.length c] (.agg _) rfl rfl H ?_)
 rintro b1 w - H
 refine Bo rfl W9 H ?_
 rintro b2 w - H
 refine Ae rfl rfl (Ae rfl rfl (Ab (Aa (OD (Aq (Af (Bq rfl CX CJ rfl H at1 rfl (Al rfl OV (Kg (N:Int) a es.length c es _ (R.ext0 H.ext) rfl hI) rfl ?_))))))))
 rintro v w ⟨rfl,hx11⟩
 replace H:=H.call hx11
 refine Bv rfl rfl (Ab (Aa (Ax _ rfl ?_ ?_)))
 ·intro h1
  replace h1:=B0 h1
  rw [hr] at h1
  cases h1
 ·intro h1
  replace h1:=B1 h1
  refine Aw (Aa (Dl 8589918240 (α:=Nat × Nat × Nat × Nat × Nat × Nat × List Value) (fun z=>[(5,ptr z.1)]) (fun z w'=>OS (some ⟨z.2.2.2.2.1,0,none⟩) es.length z.2.2.2.2.2.1 4 z.2.2.2.2.2.2 (es.flatMap B6)∧Ctx w0 [] w' [(z.2.1,Bl 2 (B5 (fun _=>0) es.length)),(z.2.2.2.1,Bl 2 (B5 (fun _=>0) N)),(z.2.2.2.2.1,Bl 92 z.2.2.2.2.2.2),(z.1,Bl 170 (SC N (some ⟨z.2.2.2.2.1,0,none⟩) es.length z.2.2.2.2.2.1 z.2.1 z.2.2.1 z.2.2.2.1 0)),(z.2.2.1,Bl 2 (B5 (fun _=>0) N)),(b2,Bl 31 [.slice none 0 0,.slice none 0 0]),(b1,Bl 28 [.int .i64 (N:Int),.slice a es.length c])]) rfl ?_ ?_))
  ·skip
   have hb1:=H.get at1
   refine U6 (n:=19) (anc:=FY) Bk.b (ZX es.length es) (fun i=>14+i) (QD b1 N es.length a c) (FZ N es.length) (show Tryz.prog.follows .mixedOrders=true by kernel_rfl) rfl (by kernel_rfl) ?_ (fun i j _ _ h=>by have h:14+i=14+j:=h; omega) (fun i k b B=>sStab b1 N es.length a c i k b B) ?_ ?_
   ·intro k hk
    have:k=0∨k=1∨k=2∨k=3∨k=4∨k=5∨k=6∨k=7∨k=8∨k=9∨k=10∨k=11∨k=12∨k=13∨k=14∨k=15∨k=16∨k=17∨k=18:=by omega
    simp [FY]
    omega
   ·intro i o e' w' B hi ho hold hsl hx hbl hgd
    have h4:e'.g 1=ptr b1:=(hold 1 fun j hj h=>by have h:1=14+j:=h; omega).trans rfl
    have hc4:w'.heap[b1]? = some (Bl 28 [.int .i64 (N:Int),.slice a es.length c]):=hx.to (by exact hb1) (by simp)
    have hcs:i=0∨i=1∨i=2∨i=3∨i=4∨i=5∨i=6∨i=7∨i=8∨i=9∨i=10∨i=11∨i=12∨i=13∨i=14∨i=15∨i=16∨i=17∨i=18:=by omega
    have hpure:∀ {v:Value},FZ N es.length i=none→i≠5→QD b1 N es.length a c i (It B i default)=v→AQB Bk.b (ZX es.length es) (fun i=>14+i) (QD b1 N es.length a c) (FZ N es.length) i e' w' B (put e' (some (14+i)) v) w':=fun h1 h5 h2=>⟨default,fun h=>absurd h h5,fun ob h=>(by rw [h1] at h; cases h),.refl _ _,by rw [h2]⟩
    rcases hcs with rfl | rfl | rfl | rfl | rfl | rfl | rfl | rfl | rfl | rfl | rfl | rfl | rfl | rfl | rfl | rfl | rfl | rfl | rfl
    ·cases Option.some.inj ho
     exact Ah rfl (by kernel_rfl) h4 (Ab (hpure rfl (by decide) rfl))
    ·cases Option.some.inj ho
     exact AY rfl BS (hsl 0 (by simp [FY])) (by rw [An hc4]; rfl) (Ab (hpure rfl (by decide) rfl))
    ·cases Option.some.inj ho
     refine IQ rfl C9 Ci (Ctx.start w' []) fun b w2 H O=>?_
     have hbb:=H.blk (b,_) (List.mem_cons_self ..)
     exact Ab ⟨⟨b,0,[]⟩,(fun h=>by cases h),fun ob h=>(by obtain rfl:=Option.some.inj h; exact ⟨(H.own _ (List.mem_cons_self ..)).elim (fun h=>by cases h) id,hbb⟩),H.ext,rfl⟩
    ·cases Option.some.inj ho
     exact Ah rfl (by kernel_rfl) h4 (Ab (hpure rfl (by decide) rfl))
    ·cases Option.some.inj ho
     exact AY rfl Ec (hsl 3 (by simp [FY])) (by rw [An hc4]; rfl) (Ab (hpure rfl (by decide) rfl))
    ·cases Option.some.inj ho
     have h16:e'.g 16 = .slice (some ⟨(B 2).b,0,none⟩) 0 0:=hsl 2 (by simp [FY])
     have h18:e'.g 18 = .slice a es.length c:=hsl 4 (by simp [FY])
     by_cases hn:es.length=0
     ·rw [hn] at h18
      exact Qi rfl C9 C9 Ci h16 h18 (Ab ⟨default,fun _ => .inl hn,fun ob h=>(by simp [FZ,hn] at h),.refl _ _,by simp [QD,sQ,hn,It]⟩)
     ·refine RU rfl C9 C9 Ci Wc Es rfl (by decide) (es.flatMap B6) h16 h18 (by omega) (Eg fun _ _=>rfl) (Rd.app (R.ext0 ((H.ext.trans (Ext.drew [] _)).trans hx)) (fun _ _=>rfl) (by decide)) (by omega) fun b c' full' w2 hb hx2 hbl2 O2=>?_
      exact Ab ⟨⟨b,c',full'⟩,fun _ => .inr O2,fun ob h=>(by simp only [FZ,hn] at h; simp at h; subst h; exact ⟨by dsimp only; omega,by dsimp only; rw [Hg]; exact hbl2⟩),hx2,by simp [QD,sQ,hn,It]⟩
    ·cases Option.some.inj ho
     refine C7 [.int .i64 (N:Int),.slice (some ⟨(sQ es.length B).b,0,none⟩) es.length (sQ es.length B).c] rfl pl_28 T7 ?_ (Ab (hpure rfl (by decide) rfl))
     show Instr.fill _ _ [(0,e'.g 15),(1,e'.g 19)]=_
     rw [show e'.g 15 = .int .i64 (N:Int) from hsl 1 (by simp [FY]),show e'.g 19 = .slice (some ⟨(sQ es.length B).b,0,none⟩) es.length (sQ es.length B).c from hsl 5 (by simp [FY])]
     rfl
    ·cases Option.some.inj ho
     exact Ah rfl (by kernel_rfl) h4 (Ab (hpure rfl (by decide) rfl))
    ·cases Option.some.inj ho
     exact AY rfl Ec (hsl 7 (by simp [FY])) (by rw [An hc4]; rfl) (Ab (hpure rfl (by decide) rfl))
    ·cases Option.some.inj ho
     exact Be rfl C9 (hsl 8 (by simp [FY])) (Ab (hpure rfl (by decide) rfl))
    ·cases Option.some.inj ho
     refine Ge rfl AX Bw Mu FX (hsl 9 (by simp [FY])) (hsl 9 (by simp [FY])) (by omega) (by omega) (by omega) (by omega) (Ctx.start w' []) fun b w2 hb H=>?_
     have hbb:=H.get at0
     rw [show ((es.length:Nat):Int).toNat=es.length from rfl,Ej] at hbb
     exact Ab ⟨⟨b,0,[]⟩,(fun h=>by cases h),fun ob h=>(by obtain rfl:=Option.some.inj h; exact ⟨by dsimp only; omega,hbb⟩),H.ext,rfl⟩
    ·cases Option.some.inj ho
     exact Ah rfl (by kernel_rfl) h4 (Ab (hpure rfl (by decide) rfl))
    ·cases Option.some.inj ho
     exact AY rfl BS (hsl 11 (by simp [FY])) (by rw [An hc4]; rfl) (Ab (hpure rfl (by decide) rfl))
    ·cases Option.some.inj ho
     refine Ge rfl AX Bw Mu FX (hsl 12 (by simp [FY])) (hsl 12 (by simp [FY])) (by omega) (by omega) (by omega) (by omega) (Ctx.start w' []) fun b w2 hb H=>?_
     have hbb:=H.get at0
     rw [show ((N:Nat):Int).toNat=N from rfl,Ej] at hbb
     exact Ab ⟨⟨b,0,[]⟩,(fun h=>by cases h),fun ob h=>(by obtain rfl:=Option.some.inj h; exact ⟨by dsimp only; omega,hbb⟩),H.ext,rfl⟩
    ·cases Option.some.inj ho
     exact Ah rfl (by kernel_rfl) h4 (Ab (hpure rfl (by decide) rfl))
    ·cases Option.some.inj ho
     exact AY rfl BS (hsl 14 (by simp [FY])) (by rw [An hc4]; rfl) (Ab (hpure rfl (by decide) rfl))
    ·cases Option.some.inj ho
     refine Ge rfl AX Bw Mu FX (hsl 15 (by simp [FY])) (hsl 15 (by simp [FY])) (by omega) (by omega) (by omega) (by omega) (Ctx.start w' []) fun b w2 hb H=>?_
     have hbb:=H.get at0
     rw [show ((N:Nat):Int).toNat=N from rfl,Ej] at hbb
     exact Ab ⟨⟨b,0,[]⟩,(fun h=>by cases h),fun ob h=>(by obtain rfl:=Option.some.inj h; exact ⟨by dsimp only; omega,hbb⟩),H.ext,rfl⟩
    ·cases Option.some.inj ho
     refine C7 (sSC N es.length B) rfl Acr Ac5 ?_ (Ab (hpure rfl (by decide) rfl))
     show Instr.fill _ _ [(0,e'.g 20),(1,e'.g 24),(2,e'.g 27),(3,e'.g 30)]=_
     rw [show e'.g 20 = .agg #[.int .i64 (N:Int),.slice (some ⟨(sQ es.length B).b,0,none⟩) es.length (sQ es.length B).c] from hsl 6 (by simp [FY]),show e'.g 24 = .slice (some ⟨(B 10).b,0,none⟩) es.length es.length from hsl 10 (by simp [FY]),show e'.g 27 = .slice (some ⟨(B 13).b,0,none⟩) N N from hsl 13 (by simp [FY]),show e'.g 30 = .slice (some ⟨(B 16).b,0,none⟩) N N from hsl 16 (by simp [FY])]
     rfl
    ·cases Option.some.inj ho
     refine B2 rfl (sSC N es.length B) (.agg _) (hsl 17 (by simp [FY])) rfl (Ctx.start w' []) fun b w2 hb H=>?_
     exact Ab ⟨⟨b,0,[]⟩,(fun h=>by cases h),fun ob h=>(by obtain rfl:=Option.some.inj h; exact ⟨by dsimp only; omega,H.get at0⟩),H.ext,rfl⟩
   ·intro o e' w' B ho A
    have hl1:=Bp hb1
    have hl2:=Bp (H.get at0)
    have h9:w.drew.heap.size=w.heap.size:=rfl
    obtain ⟨iq,hiq,hqb,hqh,hqo,O5⟩:∃ iq,(iq=2∨iq=5)∧(sQ es.length B).b=(B iq).b∧w'.heap[(B iq).b]? = some (Bl 92 (sQ es.length B).f)∧(FZ N es.length iq≠none)∧OS (some ⟨(sQ es.length B).b,0,none⟩) es.length (sQ es.length B).c 4 (sQ es.length B).f (es.flatMap B6):=by
     by_cases hn:es.length=0
     ·have he:es=[]:=List.eq_nil_of_length_eq_zero hn
      have hsq:sQ es.length B=⟨(B 2).b,0,[]⟩:=if_pos hn
      rw [hsq]
      refine ⟨2,.inl rfl,rfl,(A.blk 2 _ (by omega) trivial (show FZ N es.length 2=some _ from rfl)).1,by simp [FZ],?_⟩
      subst he
      exact ⟨(fun q hq=>by injection hq with hq; subst hq; rfl),(fun h=>by cases h),rfl,Nat.le_refl _,rfl⟩
     ·have hsq:sQ es.length B=B 5:=if_neg hn
      have ho5:FZ N es.length 5=some fun B=>Bl 92 (B 5).f:=by simp [FZ,hn]
      rw [hsq]
      exact ⟨5,.inr rfl,rfl,(A.blk 5 _ (by omega) trivial ho5).1,by rw [ho5]; simp,(A.good 5 (by omega) trivial rfl).resolve_left hn⟩
    have hiq19:iq<19:=by omega
    have ob10:FZ N es.length 10≠none:=by simp [FZ]
    have ob13:FZ N es.length 13≠none:=by simp [FZ]
    have ob16:FZ N es.length 16≠none:=by simp [FZ]
    have ob18:FZ N es.length 18≠none:=by simp [FZ]
    have hne:=fun i j hi hj hij oi oj=>A.ne i j hi hj hij trivial trivial oi oj
    have k10:=A.blk 10 _ (by omega) trivial (show FZ N es.length 10=some _ from rfl)
    have k13:=A.blk 13 _ (by omega) trivial (show FZ N es.length 13=some _ from rfl)
    have k16:=A.blk 16 _ (by omega) trivial (show FZ N es.length 16=some _ from rfl)
    have k18:=A.blk 18 _ (by omega) trivial (show FZ N es.length 18=some _ from rfl)
    have kq:w.heap.size≤(B iq).b:=by
     cases hoq:FZ N es.length iq with
     | none=>exact absurd hoq hqo
     | some ob=>exact (A.blk iq ob hiq19 trivial hoq).2
    have hs0:=H.size
    have n10_16:=hne 10 16 (by omega) (by omega) (by omega) ob10 ob16
    have n10_q:=hne 10 iq (by omega) hiq19 (by omega) ob10 hqo
    have n10_18:=hne 10 18 (by omega) (by omega) (by omega) ob10 ob18
    have n10_13:=hne 10 13 (by omega) (by omega) (by omega) ob10 ob13
    have n16_q:=hne 16 iq (by omega) hiq19 (by omega) ob16 hqo
    have n16_18:=hne 16 18 (by omega) (by omega) (by omega) ob16 ob18
    have n16_13:=hne 16 13 (by omega) (by omega) (by omega) ob16 ob13
    have nq_18:=hne iq 18 hiq19 (by omega) (by omega) hqo ob18
    have nq_13:=hne iq 13 hiq19 (by omega) (by omega) hqo ob13
    have n18_13:=hne 18 13 (by omega) (by omega) (by omega) ob18 ob13
    have n12:=H.ne at0 at1 (by decide)
    have hb20:=(H.own _ (List.mem_cons_self ..)).elim (fun h=>by cases h) id
    have hb10:=(H.own _ (List.mem_cons_of_mem _ (List.mem_cons_self ..))).elim (fun h=>by cases h) id
    have Hc:Ctx w0 [] w' [((B 10).b,Bl 2 (B5 (fun _=>0) es.length)),((B 16).b,Bl 2 (B5 (fun _=>0) N)),((B iq).b,Bl 92 (sQ es.length B).f),((B 18).b,Bl 170 (sSC N es.length B)),((B 13).b,Bl 2 (B5 (fun _=>0) N)),(b2,Bl 31 [.slice none 0 0,.slice none 0 0]),(b1,Bl 28 [.int .i64 (N:Int),.slice a es.length c])]:=by
     refine ⟨(H.ext.trans (Ext.drew [] _)).trans A.ext,fun x hx=>?_,?_,fun x hx => .inr ?_⟩
     ·simp only [List.mem_cons,List.not_mem_nil,or_false] at hx
      rcases hx with rfl | rfl | rfl | rfl | rfl | rfl | rfl
      ·exact k10.1
      ·exact k16.1
      ·exact hqh
      ·exact k18.1
      ·exact k13.1
      ·exact A.ext.to (H.get at0) (by simp)
      ·exact A.ext.to hb1 (by simp)
     ·simp only [List.pairwise_cons,List.mem_cons,List.not_mem_nil,or_false,forall_eq_or_imp,forall_eq,List.Pairwise.nil,false_imp_iff,implies_true,and_true]
      refine ⟨⟨n10_16,n10_q,n10_18,n10_13,?_,?_⟩,⟨n16_q,n16_18,n16_13,?_,?_⟩,⟨nq_18,nq_13,?_,?_⟩,⟨n18_13,?_,?_⟩,⟨?_,?_⟩,n12⟩ <;> omega
     ·simp only [List.mem_cons,List.not_mem_nil,or_false] at hx
      rcases hx with rfl | rfl | rfl | rfl | rfl | rfl | rfl <;> (dsimp only; omega)
    cases Option.some.inj ho
    refine BN rfl (ptr (B 18).b) (A.slot 18 (by omega) trivial) (Ab ⟨((B 18).b,(B 10).b,(B 13).b,(B 16).b,(sQ es.length B).b,(sQ es.length B).c,(sQ es.length B).f),A.ds,⟨rfl,trivial⟩,O5,?_⟩)
    dsimp only
    rw [hqb]
    have hsc:sSC N es.length B=SC N (some ⟨(B iq).b,0,none⟩) es.length (sQ es.length B).c (B 10).b (B 13).b (B 16).b 0:=by unfold sSC; rw [hqb]
    rw [hsc] at Hc
    exact Hc
  ·rintro ⟨bs,bf,bp,bo,q,ce,full⟩ j w ⟨O,H⟩; dsimp only at O H; dsimp only
   obtain ⟨g,hg⟩:∃ g,g=grE (N:Int) es:=⟨_,rfl⟩
   have hgE:g.E=es.length:=by rw [hg]; rfl
   have hgN:g.N=N:=by rw [hg]; rfl
   have hgo:g.Ok:=by rw [hg]; exact HQ hr
   have hcb:=LG hr
   rw [← hg]
   refine Af (Ae rfl rfl (Ab (Aa (Aq (Af (Ah rfl CR rfl (AM rfl Ec rfl H at6 rfl (Be rfl C9 rfl (Ad rfl rfl (Ab (Aa ?_)))))))))))
   refine Av (Bm 72057525318451648 (α:=Nat × Nat × List Value) (fun t=>[(36,.int .i64 (t.1:Int)),(6,.int .i64 (t.2.1:Int))]) (fun t w'=>t.1≤es.length∧OS (some ⟨q,0,none⟩) es.length ce 4 t.2.2 ((esC es (HT (BZ es) (fun _=>0) t.1)).flatMap B6)∧(∀ j,j<t.1→(BZ es j).toNat<2 ^ t.2.1)∧t.2.1≤64∧Ctx w0 [] w' [(bf,Bl 2 (B5 (fun _=>0) es.length)),(bo,Bl 2 (B5 (fun _=>0) N)),(q,Bl 92 t.2.2),(bs,Bl 170 (SC N (some ⟨q,0,none⟩) es.length ce bf bp bo 0)),(bp,Bl 2 (B5 (fun _=>0) N)),(b2,Bl 31 [.slice none 0 0,.slice none 0 0]),(b1,Bl 28 [.int .i64 (N:Int),.slice a es.length c])]) (fun t=>es.length - t.1) (0,0,full) rfl ?_ ?_ ?_)
   ·exact ⟨rfl,rfl,trivial⟩
   ·refine ⟨Nat.zero_le _,?_,fun j h=>absurd h (Nat.not_lt_zero _),by dsimp only; omega,H⟩
    rw [Jf (d:=BZ es) fun i _=>by unfold HT; rw [if_neg (Nat.not_lt_zero _)],MK]
    exact O
   ·rintro ⟨i,m,full⟩ j w ⟨hi,O,hm,hm6,H⟩; dsimp only at hi O hm hm6 H; dsimp only
    refine Af (AV rfl rfl rfl (Ab (Aa (Aq (Ax _ rfl ?_ ?_)))))
    ·intro h2
     replace h2:=AE h2
     have hil:i<es.length:=by omega
     obtain ⟨e,he⟩:=A4 hil
     have hee:=Dj (hall e (List.mem_of_getElem? he))
     obtain ⟨cc,hcc⟩:∃ cc:Nat,e.cap=cc:=⟨e.cap.toNat,by omega⟩
     have henc:B6 e=[.int .i64 e.f,.int .i64 e.t,.int .i64 (cc:Int),.int .i64 e.cost]:=by unfold B6; rw [hcc]
     have hOl:=O.len
     have hOe:=O.le
     refine Aw (Aa (Aq (Av (Af (Ad rfl rfl (Ba R rfl C9 Ci rfl rfl (by omega) (by omega) (by rfl) ?_))))))
     refine Cx _ rfl EW Ci rfl rfl (Rd.rowE (R.ext0 H.ext) he henc rfl) ?_
     refine Bo rfl Es H ?_
     rintro b8 w - H
     refine Ae rfl rfl (BP rfl Ci rfl rfl rfl (by simp [Bu]) H at0 rfl ?_)
     rintro w H
     refine Ab (Aa (Af (Bi rfl rfl (Bb rfl rfl (Ah rfl FJ rfl (Ah rfl CR rfl (AM rfl Ec rfl H at4 rfl (Ad rfl rfl (Bg rfl C9 Ci rfl rfl (by omega) (by omega) ?_)))))))))
     refine Ah rfl D4 rfl (BV (.int _ _) rfl Bw rfl rfl rfl H at3 (by omega) ?_)
     rintro w H
     refine Ab (Aa (Ap (Ad rfl rfl (Ah rfl D4 rfl (AM rfl B9 rfl H at0 rfl (DB rfl rfl Sn FM (by omega) (by omega) ?_))))))
     refine Al rfl Wf (QC cc (by omega) _) rfl ?_
     rintro v w ⟨r,rfl,hr1,hr2,-,rfl⟩
     refine OG rfl rfl rfl ?_
     refine Ae rfl rfl (Ab (A2 (Aa (Ap (Ao rfl rfl rfl (by omega) (by omega) ?_)))))
     refine Ad rfl rfl (Ab (Aa ?_))
     rw [show 0+((i:Int)).toNat*4+2=i*4+2 by omega] at H
     have O1:=OS.setf O (y:=edC es (HT (BZ es) (fun _=>0) (i+1)) i) (j:=2) (v := .int .i64 0) (fun _=>rfl) (HS (c:=HT (BZ es) (fun _=>0) i) hil) (by decide) (by unfold edC B6 HT; dsimp only; rw [if_pos (by omega)]; rfl)
     rw [TN rfl (fun j _ hj=>TQ hj)] at O1
     have hce:BZ es i=(cc:Int):=by unfold BZ; rw [AU he,hcc]
     refine ⟨(i+1,max m r,full.set (i*4+2) (.int .i64 0)),rfl,⟨rfl,congrArg (Value.int .i64) (by dsimp only; omega),trivial⟩,⟨by dsimp only; omega,O1,fun j hj=>?_,by dsimp only; omega,H.tail⟩,by dsimp only; omega⟩
     dsimp only at hj ⊢
     by_cases ej:j=i
     ·subst ej
      rw [hce]
      exact Nat.lt_of_lt_of_le (by omega) (Nat.pow_le_pow_right (by decide) (Nat.le_max_right m r))
     ·exact Nat.lt_of_lt_of_le (hm j (by omega)) (Nat.pow_le_pow_right (by decide) (Nat.le_max_left m r))
    ·intro h2
     replace h2:=AF h2
     obtain rfl:i=es.length:=by omega
     rw [Jf (d:=Fw es m) fun i hi=>by unfold HT Fw; rw [if_pos hi,Nat.div_eq_of_lt (hm i hi)]; rfl] at O
     refine Bh (Aj (Aj (AB (Aa (Af (Ad rfl rfl (Ae rfl rfl (Ab (Aa (Aq (OC (Aa (Aq (Av (Bm 147429837401600557568 (α:=PSt) (fun t=>[(9,.int .i64 (t.j:Int))]) (fun t w'=>t.j≤64∧OS (some ⟨q,0,none⟩) es.length ce 4 t.full ((esC es (Fw es t.j)).flatMap B6)∧Fine g (Fw es t.j) t.x t.p∧(∀ v,v<N→Bs g t.x v=0)∧(∀ v,v<N→t.ov v=0)∧(∀ v,v<N → -1073741824≤t.p v∧t.p v≤1073741824)∧Ctx w0 [] w' [(bf,Bl 2 (B5 (t.x) es.length)),(bo,Bl 2 (B5 (t.ov) N)),(q,Bl 92 t.full),(bs,Bl 170 (SC N (some ⟨q,0,none⟩) es.length ce bf bp bo t.kk)),(bp,Bl 2 (B5 (t.p) N)),(b2,Bl 31 [.slice none 0 0,.slice none 0 0]),(b1,Bl 28 [.int .i64 (N:Int),.slice a es.length c])]) (fun t=>t.j) ⟨m,full,fun _=>0,fun _=>0,fun _=>0,0⟩ rfl ?_ ?_ ?_)))))))))))))))
     ·exact ⟨rfl,trivial⟩
     ·refine ⟨hm6,O,⟨fun i hi=>⟨Int.le_refl _,(LF hr m i (by omega)).1⟩,fun a ha hra=>?_⟩,fun v _=>X2 g v,fun _ _=>rfl,fun _ _=>⟨by dsimp only; omega,by dsimp only; omega⟩,H⟩
      exfalso
      unfold Cz at hra
      have hai:a / 2<es.length:=by omega
      have hk0:Fw es m (a / 2)=0:=by unfold Fw; rw [Nat.div_eq_of_lt (hm _ hai)]; rfl
      dsimp only at hra
      rw [hk0] at hra
      split at hra <;> omega
     ·rintro ⟨j,full,x,p,ov,kk⟩ jj w ⟨hj6,O,hF,hx0,hov,hpb,H⟩; dsimp only at hj6 O hF hx0 hov hpb H; dsimp only
      rcases j with _ | j
      ·skip
       refine Av (Aq (Af (Ad rfl rfl (Bc rfl rfl rfl (by omega) (by omega) ?_))))
       refine Ae rfl rfl (Ab (Aa (Af (Ad rfl rfl (AV rfl rfl rfl (Ab (Aa (Ax _ rfl ?_ ?_))))))))
       ·intro h3
        replace h3:=AE h3
        refine Bh (Aj (E2 rfl (Aj (AB (Aa (CH [([0,1,2,3,4,5,6,7,8,9,10,11,12],13),([14],15)] (fun z=>z.heap[bs]? = some (Bl 170 (SC N (some ⟨q,0,none⟩) es.length ce bf bp bo kk))) [] Bz (by kernel_rfl) (H.drew.get at3) ?_))))))
        refine AO rfl rfl ?_
        refine Dt rfl rfl (B3 rfl rfl (AL rfl Ee rfl (BQ rfl BT rfl (fun _ hx=>(by rw [An hx]; rfl)) ?_)))
        refine Dt rfl rfl (B3 rfl rfl (AL rfl Ef rfl (BQ rfl BT rfl (fun _ hx=>(by rw [An hx]; rfl)) ?_)))
        refine Qb [.slice (some ⟨bf,0,none⟩) es.length es.length,.slice (some ⟨bp,0,none⟩) N N] rfl pl_31 W9 rfl ?_
        refine Dt rfl rfl (B3 rfl rfl (AL rfl Mv rfl (BQ rfl BS rfl (fun _ hx=>(by rw [An hx]; rfl)) ?_)))
        refine Bx ?_
        replace H:=H.drew
        refine BP rfl NK rfl rfl rfl (by simp [Bu]) H at5 rfl ?_
        rintro w H
        refine Ab (C2 (H.get at3) (AO rfl rfl ?_))
        refine IV rfl rfl (Bx (Ae rfl rfl (Ab (C2 (H.get at3) (BL (A9 (Uq (Y7 rfl rfl rfl T1 NK H at5 rfl (show _=(.int _ _) from rfl) (show _=(.int _ _) from rfl) ?_))))))))
        refine ⟨bf,bp,x,p,kk,rfl,KL hF fun i hi=>(UO hr i (by omega)).symm,hx0,hpb,H.sub (fun y hy=>?_) ?_⟩
        ·simp only [List.mem_cons,List.not_mem_nil,or_false] at hy
         rcases hy with rfl | rfl
         ·exact List.mem_of_getElem? (i:=0) rfl
         ·exact List.mem_of_getElem? (i:=4) rfl
        ·simp only [List.pairwise_cons,List.mem_singleton,forall_eq,List.not_mem_nil,false_imp_iff,implies_true,List.Pairwise.nil,and_true]
         exact H.ne at0 at4 (by decide)
       ·intro h3
        replace h3:=AF h3
        omega
      ·skip
       refine Av (Aq (Af (Ad rfl rfl (Bc rfl rfl rfl (by omega) (by omega) ?_))))
       rw [show ((j+1:Nat):Int) - 1=(j:Int) by omega]
       refine Ae rfl rfl (Ab (Aa (Af (Ad rfl rfl (AV rfl rfl rfl (Ab (Aa (Ax _ rfl ?_ ?_))))))))
       ·intro h3
        replace h3:=AE h3
        omega
       ·intro h3
        replace h3:=AF h3
        have hF1:=M8 hF (cap':=Fw es j) fun i _=>NQ es j i
        obtain ⟨x1,hx1⟩:∃ x1,x1=I3 g (Fw es j) x p:=⟨_,rfl⟩
        refine Aw (Aa (Af (Bi rfl rfl (Bq rfl CX CJ rfl H at6 rfl (Ad rfl rfl (Al rfl Aa4 (Xi (bf:=bf) (bo:=bo) (ae:=some ⟨q,0,none⟩) (Ctx.lend (L1:=[_,_,_]) (L2:=[_,_,_,_]) H) O (H.get at3) (FC (L:=[_,_,_]) H.nd (x:=(bs,_)) (List.mem_of_getElem? (i:=0) rfl)) (H.get at4) (FC (L:=[_,_,_]) H.nd (x:=(bp,_)) (List.mem_of_getElem? (i:=1) rfl)) (R.ext0 H.ext) (fun hne hm=>by have h7:=Rd.lt R hne (fun x _=>⟨_,rfl⟩) (by decide); have h8:=(Ctx.left (L:=[_,_,_]) (L':=[_,_,_,_]) H).own; obtain ⟨y,hy,he⟩:=List.mem_map.1 hm; rcases h8 y hy with h | h; cases h; omega) hr (by omega) (fun i _=>NQ es j i) (by rw [← hg]; exact hF) (by rw [← hg]; exact hx0) hov hpb) rfl ?_))))))
        rintro rv w ⟨rfl,full',O',H2⟩
        rw [← hg] at H2
        replace H:=Ctx.back (L1:=[_,_,_]) (L2:=[_,_,_,_]) H H2
        refine Ab (Aa (Av ?_))
        rw [← hx1] at hF1 H
        refine Bm 110680464442257309696 (α:=FSt) (fun _=>[]) (fun t w'=>Fine g (Fw es j) t.x t.p∧(∀ v,v<N→t.ov v=Bs g t.x v)∧(∀ v,v<N → -1073741824≤t.p v∧t.p v≤1073741824)∧Ctx w0 [] w' [(bf,Bl 2 (B5 (t.x) es.length)),(bo,Bl 2 (B5 (t.ov) N)),(q,Bl 92 full'),(bs,Bl 170 (SC N (some ⟨q,0,none⟩) es.length ce bf bp bo t.kk)),(bp,Bl 2 (B5 (t.p) N)),(b2,Bl 31 [.slice none 0 0,.slice none 0 0]),(b1,Bl 28 [.int .i64 (N:Int),.slice a es.length c])]) (fun t=>(G1 g t.x).toNat) ⟨x1,p,Bs g x1,kk⟩ rfl ?_ ?_ ?_
        ·exact trivial
        ·exact ⟨hF1,fun _ _=>rfl,hpb,H⟩
        ·rintro ⟨x,p,ov,kk⟩ jj2 w ⟨hF,hov,hpb,H⟩; dsimp only at hF hov hpb H; dsimp only
         refine Aq (Af (Bi rfl rfl ?_))
         have Hq:=H.perm perm5
         refine Al rfl Aa5 (Adq (bs:=bs) (bf:=bf) (bp:=bp) (bo:=bo) (N:=N) (n:=es.length) (ae:=some ⟨q,0,none⟩) (ce:=ce) (es:=esC es (Fw es j)) (g:=g) (cap:=Fw es j) (HR es _) (by rw [grE_C,← hg]) (fun i hi=>Adf hi) (Ctx.lend (L1:=[_,_,_,_,_]) (L2:=[_,_]) Hq) O' (TO hr (LF hr j)) hF hov hpb) rfl ?_
         rintro rv w ⟨b,x',p',ov',kk',rfl,H2,hF',hov',hpb',hb0,hb1⟩
         replace H:=(Ctx.back (L1:=[_,_,_,_,_]) (L2:=[_,_]) Hq H2).perm perm5.symm
         refine Ab (Aa (Ax _ rfl ?_ ?_))
         ·intro h4
          refine Aw (Aa (Av (Aw (A2 (Aa ?_)))))
          have h5:=hb1 h4
          have h6:=UD g x'
          exact ⟨⟨x',p',ov',kk'⟩,rfl,trivial,⟨hF',hov',hpb',H⟩,by dsimp only; omega⟩
         ·intro h4
          refine Bh (Aj (Aj (AB (A2 (Aa ?_)))))
          have hz:∀ v,v<N→Bs g x' v=0:=fun v hv=>Q1 hgo (fun u hu=>hb0 h4 u (by omega)) v (by omega)
          exact ⟨⟨j,full',x',p',ov',kk'⟩,rfl,⟨rfl,trivial⟩,⟨by dsimp only; omega,O',hF',hz,fun v hv=>(hov' v hv).trans (hz v hv),hpb',H⟩,by dsimp only; omega⟩

end Go.Proofs.YtapphbmlkdhnmaaGreat

/- Whether what flows is the best: plain law; rounds as they lie in memory. -/
namespace Go.Proofs.YtapphbmlkdhnmaaGreat
open Go.GV
attribute [local irreducible] A1 W Wq Wt

theorem TV {N:Int} {es:List Ed} {pot:List Int} (hr:Cj N es=true) {k:Nat} (hk:k<2*es.length):WO N es pot (k:Int)=(grE N es).len (Em pot) k:=by
 obtain ⟨e,he,hE,-⟩:=Pj hr hk
 unfold WO Gr.len Gr.c Gr.u Gr.v
 rw [hE]
 unfold GF
 rcases Nat.mod_two_eq_zero_or_one k with h | h
 ·rw [if_pos h,if_pos h,if_pos h,Ob he,Pw he,Px he,if_neg (by omega)]; rfl
 ·rw [if_pos h,if_neg (show ¬ k % 2=0 by omega),if_neg (show ¬ k % 2=0 by omega),if_neg (show ¬ k % 2=0 by omega),Ob he,Pw he,Px he]; rfl
theorem QM {N:Int} {es:List Ed} {fl:List Int} (hw:BJ N es fl=true) {k:Nat} (hk:k<2*es.length):Jo N es fl (k:Int)=Cz (BZ es) (flE fl) k:=by
 obtain ⟨e,x,he,hx,hro,-⟩:=Pk hw hk
 rw [hro]
 unfold Ln Cz BZ flE
 rw [AU he,AU hx]
 rcases Nat.mod_two_eq_zero_or_one k with h | h
 ·rw [if_neg (by omega),if_pos h]
 ·rw [if_pos h,if_neg (by omega)]
theorem X3 {N:Int} {es:List Ed} {fl:List Int} (hw:BJ N es fl=true) (h:∀ v,v<N.toNat→Bs (grE N es) (flE fl) v=0):EO N es fl=true:=by
 unfold EO Lo
 rw [hw,Bool.true_and,List.all_eq_true]
 intro x hx
 obtain ⟨i,hi⟩:=List.mem_iff_getElem?.1 hx
 obtain ⟨h1,rfl⟩:=MA hi
 exact decide_eq_true (h i h1)
/-- What is accepted: what flows, whole numbers of the nodes, none too great, and they fit. -/
theorem F7 {N:Int} {es:List Ed} {fl pot:List Int}:Ex N es fl pot=true↔EO N es fl=true∧Fs N pot=true∧Fine (grE N es) (BZ es) (flE fl) (Em pot):=by
 have hE:(grE N es).E=es.length:=rfl
 unfold Ex
 simp only [Bool.and_eq_true]
 constructor
 ·rintro ⟨hr,hf,hp,ht⟩
  have hw:=(Fq hf).1
  obtain ⟨hl,-,hin⟩:=BA hw
  refine ⟨hf,hp,fun i hi=>?_,fun a ha hro=>?_⟩
  ·rw [hE] at hi
   obtain ⟨e,he⟩:=A4 hi
   obtain ⟨x,hx⟩:=A4 (l:=fl) (i:=i) (by omega)
   unfold flE BZ
   rw [AU he,AU hx]
   exact hin i e x he hx
  ·rw [hE] at ha
   have h1:=List.all_eq_true.1 ht a (List.mem_range.2 ha)
   unfold HK at h1
   rw [TV hr ha,QM hw ha,decide_eq_true hro,Bool.and_true,Bool.not_eq_true',decide_eq_false_iff_not] at h1
   omega
 ·rintro ⟨hf,hp,hF⟩
  have hw:=(Fq hf).1
  obtain ⟨hl,hr,hin⟩:=BA hw
  refine ⟨hr,hf,hp,List.all_eq_true.2 fun a ha=>?_⟩
  rw [List.mem_range] at ha
  unfold HK
  rw [TV hr ha,QM hw ha,Bool.not_eq_true']
  by_cases h:0<Cz (BZ es) (flE fl) a
  ·rw [decide_eq_false (by have:=hF.fit a ha h; omega),Bool.false_and]
  ·rw [decide_eq_false h,Bool.and_false]
/-- What is told by the solver is accepted. -/
theorem SK {N:Nat} {es:List Ed} {x p:Nat→Int} (hr:Cj (N:Int) es=true) (hF:Fine (grE (N:Int) es) (BZ es) x p) (ho:∀ v,v<N→Bs (grE (N:Int) es) x v=0) (hp:∀ v,v<N → -1073741824≤p v∧p v≤1073741824):Ex (N:Int) es (tab x es.length) (tab p N)=true:=by
 have hx:∀ i,i<es.length→flE (tab x es.length) i=x i:=fun i hi=>Zf hi
 have hq:∀ v,v<N→Em (tab p N) v=p v:=fun v hv=>AU (B4 hv)
 have hw:BJ (N:Int) es (tab x es.length)=true:=by
  unfold BJ
  rw [hr,Cy,decide_eq_true rfl]
  refine List.all_eq_true.2 fun b hb=>?_
  obtain ⟨i,hi⟩:=List.mem_iff_getElem?.1 hb
  have hl:=Cr hi
  rw [List.length_zipWith,Cy] at hl
  obtain ⟨e,he⟩:=A4 (l:=es) (i:=i) (by omega)
  rw [M9 he (B4 (f:=x) (by omega))] at hi
  injection hi with hi
  have h1:=hF.in' i (by show i<es.length; omega)
  unfold BZ at h1
  rw [AU he] at h1
  rw [← hi]
  show inB e (x i)=true
  unfold inB
  rw [decide_eq_true h1.1,decide_eq_true h1.2]; rfl
 refine F7.2 ⟨X3 hw fun v hv=>?_,?_,MH (HQ hr) (X1 hF hx) hq⟩
 ·rw [J6 hx]
  exact ho v hv
 ·unfold Fs
  rw [Cy,decide_eq_true rfl,Bool.and_true,List.all_eq_true]
  intro y hy
  obtain ⟨i,hi⟩:=List.mem_iff_getElem?.1 hy
  obtain ⟨h1,rfl⟩:=MA hi
  have:=hp i h1
  unfold KG
  rw [Bool.and_eq_true,decide_eq_true_eq,decide_eq_true_eq]
  omega
/-! ### Rounds in memory -/
structure Rnd where
 no:Int
 day:Int
 cmp:Bool
 ids:List Int
 N:Int
 es:List Ed
 fl:List Int
 pot:List Int
structure RSl where
 aI:Option Addr
 cI:Nat
 aE:Option Addr
 cE:Nat
 aF:Option Addr
 cF:Nat
 aP:Option Addr
 cP:Nat
abbrev AJ (r:Rnd) (q:RSl):List Value:=[.int .u64 r.no,.int .i64 r.day,.bool r.cmp,.slice q.aI r.ids.length q.cI,.int .i64 r.N,.slice q.aE r.es.length q.cE,.slice q.aF r.fl.length q.cF,.slice q.aP r.pot.length q.cP]
structure RAt (w:World) (r:Rnd) (q:RSl):Prop where
 I:Rd w q.aI 1 U1 r.ids
 E:Rd w q.aE 4 B6 r.es
 F:Rd w q.aF 1 I1 r.fl
 P:Rd w q.aP 1 I1 r.pot
 fc:r.fl.length≤q.cF
/-- A round's blocks are none of these. -/
structure ROff (q:RSl) (r:Rnd) (S:Nat→Prop):Prop where
 I:r.ids≠[]→¬ S (adr q.aI).block
 E:r.es≠[]→¬ S (adr q.aE).block
 F:r.fl≠[]→¬ S (adr q.aF).block
 P:r.pot≠[]→¬ S (adr q.aP).block
theorem RAt.ext {w w':World} {r:Rnd} {q:RSl} {S:List Nat} (h:RAt w r q) (he:Ext S w w') (hn:ROff q r (·∈S)):RAt w' r q :=
 ⟨h.I.ext' he hn.I,h.E.ext' he hn.E,h.F.ext' he hn.F,h.P.ext' he hn.P,h.fc⟩
theorem RAt.ext0 {w w':World} {r:Rnd} {q:RSl} (h:RAt w r q) (he:Ext [] w w'):RAt w' r q:=h.ext he ⟨fun _=>by simp,fun _=>by simp,fun _=>by simp,fun _=>by simp⟩
theorem ROff.mono {q:RSl} {r:Rnd} {S S':Nat→Prop} (h:ROff q r S) (hs:∀ x,S' x→S x):ROff q r S':=⟨fun g k=>h.I g (hs _ k),fun g k=>h.E g (hs _ k),fun g k=>h.F g (hs _ k),fun g k=>h.P g (hs _ k)⟩
theorem RAt.lt {w:World} {r:Rnd} {q:RSl} (h:RAt w r q):ROff q r (fun x=>w.heap.size≤x) :=
 ⟨fun g=>Nat.not_le.2 (h.I.lt' (fun _ _=>rfl) (by decide) g),fun g=>Nat.not_le.2 (h.E.lt' (fun _ _=>rfl) (by decide) g),fun g=>Nat.not_le.2 (h.F.lt' (fun _ _=>rfl) (by decide) g),fun g=>Nat.not_le.2 (h.P.lt' (fun _ _=>rfl) (by decide) g)⟩
/-- Accounts, to be read. -/
def AcAt (w:World) (t:TypeId) (bx:Nat) (acs:List Ac):Prop:=∃ a c,w.heap[bx]? = some (Bl t [.slice a acs.length c])∧Rd w a 2 encA acs
def DuAt (w:World) (bd:Nat) (ds:List Du):Prop:=∃ b nx o,w.heap[bd]? = some (Bl 123 (DU b nx))∧w.heap[b]? = some o∧J2 .u64 (dm ds) o
theorem AcAt.ext0 {w w':World} {t:TypeId} {bx:Nat} {acs:List Ac} (h:AcAt w t bx acs) (he:Ext [] w w'):AcAt w' t bx acs:=by
 obtain ⟨a,c,h1,h2⟩:=h
 exact ⟨a,c,he.to h1 (by simp),h2.ext0 he⟩
theorem DuAt.ext0 {w w':World} {bd:Nat} {ds:List Du} (h:DuAt w bd ds) (he:Ext [] w w'):DuAt w' bd ds:=by
 obtain ⟨b,nx,o,h1,h2,h3⟩:=h
 exact ⟨b,nx,o,he.to h1 (by simp),he.to h2 (by simp),h3⟩
end Go.Proofs.YtapphbmlkdhnmaaGreat

/- A round, planned: the walk. -/
namespace Go.Proofs.YtapphbmlkdhnmaaGreat
open Go.GV
attribute [local irreducible] A1 W Wq Wt

/-- What a plan is. -/
structure PlanR (acs:List Ac) (ds:List Du) (net:Bool) (r:Rnd):Prop where
 no:r.no=0
 day:r.day=0
 cmp:r.cmp=net
 ids:r.ids=(opn ds).map Du.id
 N:r.N=((acs.length+1:Nat):Int)
 es:r.es=Bt (acs.map GL) (opn ds) net
 chk:Ex r.N r.es r.fl r.pot=true
def rnd0:List Value:=[.int .u64 0,.int .i64 0,.bool false,.slice none 0 0,.int .i64 0,.slice none 0 0,.slice none 0 0,.slice none 0 0]
def PlanRes (w:World) (acs:List Ac) (ds:List Du) (net:Bool) (v:Value) (w':World):Prop :=
 Ext [] w w'∧((CS (acs.map GL) ds=false∧v = .tuple #[.agg rnd0.toArray,.int .i64 1]) ∨
  (CS (acs.map GL) ds=true∧∃ r q,v = .tuple #[.agg (AJ r q).toArray,.int .i64 0]∧PlanR acs ds net r∧RAt w' r q∧ROff q r (fun x=>x<w.heap.size)))
end Go.Proofs.YtapphbmlkdhnmaaGreat

/- Whether a round is one of now: the walk. -/
namespace Go.Proofs.YtapphbmlkdhnmaaGreat
open Go.GV
attribute [local irreducible] A1 W Wq Wt

/-- A round's net, as a call gives it. -/
def Adr (w:World) (rs:List Int) (ds:List Du) (net:Bool) (N:Int) (aE:Option Addr) (nE:Nat) (vI:Value) (code:Int):Prop :=
 (CS rs ds=false∧code=1∧∃ aI nI cI,vI = .slice aI nI cI)∨(CS rs ds=true∧code=0∧N=((rs.length+1:Nat):Int)∧nE=(Bt rs (opn ds) net).length∧Rd w aE 4 B6 (Bt rs (opn ds) net)∧∃ aI cI,vI = .slice aI ((opn ds).map Du.id).length cI∧Rd w aI 1 U1 ((opn ds).map Du.id))
/-- A round that was made of accounts and dues, beside one that is held against it. -/
structure NowZ where
 b:Nat
 N:Int
 aE:Option Addr
 nE:Nat
 cE:Nat
 aI:Option Addr
 nI:Nat
 cI:Nat
 code:Int
def NowI (w0:World) (rs:List Int) (ds:List Du) (net:Bool) (b5:Nat) (o5:Obj) (z:NowZ) (w:World):Prop :=
 Ext [] w0 w∧w.heap[b5]? = some o5∧w.heap[z.b]? = some (Bl 28 [.int .i64 z.N,.slice z.aE z.nE z.cE])∧Adr w rs ds net z.N z.aE z.nE (.slice z.aI z.nI z.cI) z.code
def nowB (acs:List Ac) (ds:List Du) (r:Rnd):Bool :=
 CS (acs.map GL) ds && (decide (((acs.length+1:Nat):Int)=r.N) && (decide (Bt (acs.map GL) (opn ds) r.cmp=r.es) && decide ((opn ds).map Du.id=r.ids)))
end Go.Proofs.YtapphbmlkdhnmaaGreat

/- A round's pays, one by one: the closure. -/
namespace Go.Proofs.YtapphbmlkdhnmaaGreat
open Go.GV
attribute [local irreducible] A1 W Wq Wt

end Go.Proofs.YtapphbmlkdhnmaaGreat

/- A round, applied. -/
namespace Go.Proofs.YtapphbmlkdhnmaaGreat
open Go.GV
attribute [local irreducible] A1 W Wq Wt

theorem C8 {w:World} {b:Nat} {t:TypeId} {l:List Value} (h:w.heap[b]? = some (Bl t l)) (o:Nat) (l':List Value) (hl:(l.drop o).take l'.length=l'):∀ j v,l'[j]? = some v→w.cell? ⟨b,o+j,none⟩=some v:=fun j v hv=>by
 rw [An h]
 have hj:=Cr hv
 rw [← hl,List.getElem?_take,if_pos hj,List.getElem?_drop] at hv
 exact hv
theorem ROff.or {q:RSl} {r:Rnd} {S T:Nat→Prop} (h:ROff q r S) (k:ROff q r T):ROff q r (fun x=>S x∨T x) :=
 ⟨fun g x=>x.elim (h.I g) (k.I g),fun g x=>x.elim (h.E g) (k.E g),fun g x=>x.elim (h.F g) (k.F g),fun g x=>x.elim (h.P g) (k.P g)⟩
/-- What a right round says. -/
structure ApF (acs:List Ac) (ds:List Du) (r:Rnd):Prop where
 B:Bright (acs.map GL) ds
 N:r.N=(((acs.map GL).length+1:Nat):Int)
 es:r.es=Bt (acs.map GL) (opn ds) r.cmp
 ids:r.ids=(opn ds).map Du.id
 pay:PayIn (opn ds) (r.fl.take (opn ds).length)
 len:r.fl.length=r.es.length
 by':∀ (k:Nat) (a:Ac),acs[k]? = some a→(r.cmp=true→byK (acs.map GL) (opn ds) r.cmp r.fl k=0) ∧ -(GL a)≤byK (acs.map GL) (opn ds) r.cmp r.fl k∧byK (acs.map GL) (opn ds) r.cmp r.fl k≤4503599627370496
 sum:Bn (byK (acs.map GL) (opn ds) r.cmp r.fl) acs.length=0
 ok:ZZ ds ((opn ds).zip (r.fl.take (opn ds).length))
 all:payA ds ((opn ds).zip (r.fl.take (opn ds).length))=Gb ds (r.fl.take (opn ds).length)
/-- What applying a round answers, and leaves. -/
def X4 (acs:List Ac) (ds:List Du) (r:Rnd):Int:=if Ex r.N r.es r.fl r.pot=false then 1 else if nowB acs ds r=false then 3 else 0
def applyA (acs:List Ac) (ds:List Du) (r:Rnd):List Ac:=if X4 acs ds r=0 then shA acs (tab (byK (acs.map GL) (opn ds) r.cmp r.fl) acs.length) else acs
def applyD (acs:List Ac) (ds:List Du) (r:Rnd):List Du:=if X4 acs ds r=0 then Gb ds (r.fl.take (opn ds).length) else ds
abbrev LX (bx:Nat) (a:Option Addr) (n c:Nat) (full:List Value) (bd b:Nat) (nx:Int) (o:Obj):List (Nat × Obj):=(bx,Bl 116 [.slice a n c])::(bd,Bl 123 (DU b nx))::(b,o)::ent a 64 full
structure AP7 where
 i:Nat
 o:Obj
end Go.Proofs.YtapphbmlkdhnmaaGreat

/- What a round keeps: plain law. -/
namespace Go.Proofs.YtapphbmlkdhnmaaGreat
open Go.GV
attribute [local irreducible] A1 W Wq Wt

/-- How a due weighs in a bank's place. -/
def plc (k:Nat) (d:Du):Int:=one (d.to=(k:Int)) - one (d.fr=(k:Int))
theorem KP {p q:Prop} [Decidable p] [Decidable q] (h:p↔q):one p=one q:=by
 by_cases hp:p
 ·rw [FQ hp,FQ (h.1 hp)]
 ·rw [Fa hp,Fa (fun hq=>hp (h.2 hq))]
/-- What a bank has, and is owed, less what it owes. -/
def placeN (acs:List Ac) (ds:List Du) (k:Nat):Int:=(acs.getD k a00).ba+D6 (ds.map fun d=>plc k d*d.am)
theorem Kn:∀ {ds:List Du} {xs:List Int} {e:Du},e∈Gb ds xs→∃ d∈ds,e.id=d.id
 | [],_,_,h=>by cases h
 | d::ds,[],e,h=>⟨e,h,rfl⟩
 | d::ds,x::xs,e,h=>by
  unfold Gb at h
  split at h
  ·rcases List.mem_cons.1 h with rfl | h
   ·exact ⟨_,List.mem_cons_self ..,rfl⟩
   ·obtain ⟨d',h1,h2⟩:=Kn h
    exact ⟨d',List.mem_cons_of_mem _ h1,h2⟩
  ·split at h
   ·obtain ⟨d',h1,h2⟩:=Kn h
    exact ⟨d',List.mem_cons_of_mem _ h1,h2⟩
   ·rcases List.mem_cons.1 h with rfl | h
    ·exact ⟨d,List.mem_cons_self ..,rfl⟩
    ·obtain ⟨d',h1,h2⟩:=Kn h
     exact ⟨d',List.mem_cons_of_mem _ h1,h2⟩
/-- How far the dues and what is left of them are gone through. -/
def MgI (ds left:List Du) (i j:Nat):Prop:=j≤left.length∧∃ xs,PayIn (opn (ds.drop i)) xs∧left.drop j=Gb (ds.drop i) xs
theorem MgI.start {ds:List Du} {xs:List Int} (h:PayIn (opn ds) xs):MgI ds (Gb ds xs) 0 0:=⟨Nat.zero_le _,xs,h,rfl⟩
theorem HV {α:Type} {l:List α} {i:Nat} {x:α} (h:l[i]? = some x):l.drop i=x::l.drop (i+1):=by
 obtain ⟨h1,rfl⟩:=List.getElem?_eq_some_iff.1 h
 exact List.drop_eq_getElem_cons h1
theorem Od {α:Type} {l m:List α} {j:Nat} {x:α} (h:l.drop j=x::m):l[j]? = some x∧l.drop (j+1)=m:=by
 have h1:(l.drop j)[0]? = some x:=by rw [h]; rfl
 rw [List.getElem?_drop,Nat.add_zero] at h1
 refine ⟨h1,?_⟩
 rw [HV h1] at h
 injection h
theorem MgI.step {ds left:List Du} {i j:Nat} {d:Du} (hs:(ds.map (·.id)).Pairwise (·<·)) (h:MgI ds left i j) (hd:ds[i]? = some d) (hp:1≤d.am) :
  (∃ e,left[j]? = some e∧e.id=d.id∧e.am≤d.am∧1≤e.am∧(d.held=true→e=d)∧MgI ds left (i+1) (j+1)) ∨
  (d.held=false∧(∀ e,left[j]? = some e→e.id≠d.id)∧MgI ds left (i+1) j):=by
 obtain ⟨hj,xs,hP,hl⟩:=h
 rw [HV hd] at hP hl
 rw [QJ] at hP
 by_cases hh:d.held=true
 ·rw [if_pos hh] at hP
  have hl':left.drop j=d::Gb (ds.drop (i+1)) xs:=by
   rw [hl]; exact SH hh _ _
  obtain ⟨g1,g2⟩:=Od hl'
  exact .inl ⟨d,g1,rfl,Int.le_refl _,hp,fun _=>rfl,Cr g1,xs,hP,g2⟩
 ·rw [if_neg hh] at hP
  obtain ⟨x,xs,rfl⟩:=PayIn.cons hP
  obtain ⟨⟨h0,h1⟩,hP⟩:=PayIn.tail hP
  rw [SJ hh] at hl
  by_cases hx:d.am=x
  ·rw [if_pos hx,List.nil_append] at hl
   refine .inr ⟨by simpa using hh,fun e he hid=>?_,hj,xs,hP,hl⟩
   have h3:=HV he
   rw [hl] at h3
   obtain ⟨d',hd',hid'⟩:=Kn (e:=e) (by rw [h3]; exact List.mem_cons_self ..)
   have hs':((ds.drop i).map (·.id)).Pairwise (·<·):=by rw [List.map_drop]; exact hs.drop
   rw [HV hd,List.map_cons,List.pairwise_cons] at hs'
   have:=hs'.1 d'.id (List.mem_map_of_mem hd')
   omega
  ·rw [if_neg hx,List.cons_append,List.nil_append] at hl
   obtain ⟨g1,g2⟩:=Od hl
   exact .inl ⟨_,g1,rfl,by dsimp only; omega,by dsimp only; omega,fun h=>absurd h hh,Cr g1,xs,hP,g2⟩
theorem MgI.ends {ds left:List Du} {j:Nat} (h:MgI ds left ds.length j):j=left.length:=by
 obtain ⟨hj,xs,-,hl⟩:=h
 rw [List.drop_length] at hl
 have:=congrArg List.length hl
 rw [List.length_drop] at this
 have h0:(Gb [] xs).length=0:=rfl
 omega
end Go.Proofs.YtapphbmlkdhnmaaGreat

/- Nets that are the same but for the names: plain law of what a round is worth. -/
namespace Go.Proofs.YtapphbmlkdhnmaaGreat
open Go.GV
attribute [local irreducible] A1 W Wq Wt

/-- A sum, gone through in another order. -/
theorem TW {F:Nat→Int} {E:Nat} {s:Nat→Nat} (h1:∀ i,i<E→s i<E) (h2:∀ i,i<E→s (s i)=i):Bn (fun i=>F (s i)) E=Bn F E:=by
 have e1:Bn (fun i=>F (s i)) E=Bn (fun i=>Bn (fun j=>one (s i=j)*F j) E) E:=BU fun i hi=>(Gf F (h1 i hi)).symm
 have e2:=M5 (fun i j=>one (s i=j)*F j) E E
 have e3:Bn (fun j=>Bn (fun i=>one (s i=j)*F j) E) E=Bn F E:=BU fun j hj=>by
  have:Bn (fun i=>one (s i=j)*F j) E=Bn (fun i=>one (s j=i)*F j) E:=BU fun i hi=>by
   rw [KP (p:=s i=j) (q:=s j=i) ⟨fun h=>by rw [← h,h2 i hi],fun h=>by rw [← h,h2 j hj]⟩]
  rw [this]
  exact Gf (fun _=>F j) (h1 j hj)
 rw [e1,← e3]
 exact e2
/-- Two nets that are one but for the names of edges and nodes. -/
structure Twin (g g':Gr) (cap cap':Nat→Int) (s p:Nat→Nat):Prop where
 N:g'.N=g.N
 E:g'.E=g.E
 s1:∀ i,i<g.E→s i<g.E
 s2:∀ i,i<g.E→s (s i)=i
 p1:∀ v,v<g.N→p v<g.N
 p2:∀ v,v<g.N→p (p v)=v
 f:∀ i,i<g.E→g'.f (s i)=p (g.f i)
 t:∀ i,i<g.E→g'.t (s i)=p (g.t i)
 co:∀ i,i<g.E→g'.co (s i)=g.co i
 cap:∀ i,i<g.E→cap' (s i)=cap i
theorem Twin.symm {g g':Gr} {cap cap':Nat→Int} {s p:Nat→Nat} (hg':g'.Ok) (hg:g.Ok) (T:Twin g g' cap cap' s p):Twin g' g cap' cap s p :=
 ⟨T.N.symm,T.E.symm,fun i hi=>by rw [T.E] at hi ⊢; exact T.s1 i hi,fun i hi=>by rw [T.E] at hi; exact T.s2 i hi,
  fun v hv=>by rw [T.N] at hv ⊢; exact T.p1 v hv,fun v hv=>by rw [T.N] at hv; exact T.p2 v hv,
  fun i hi=>by
   rw [T.E] at hi
   have h:=T.f (s i) (T.s1 i hi)
   rw [T.s2 i hi] at h
   rw [h,T.p2 _ (hg.f _ (T.s1 i hi))],
  fun i hi=>by
   rw [T.E] at hi
   have h:=T.t (s i) (T.s1 i hi)
   rw [T.s2 i hi] at h
   rw [h,T.p2 _ (hg.t _ (T.s1 i hi))],
  fun i hi=>by
   rw [T.E] at hi
   have h:=T.co (s i) (T.s1 i hi)
   rw [T.s2 i hi] at h
   exact h.symm,
  fun i hi=>by
   rw [T.E] at hi
   have h:=T.cap (s i) (T.s1 i hi)
   rw [T.s2 i hi] at h
   exact h.symm⟩
theorem Twin.le {g g':Gr} {cap cap' x x' p':Nat→Int} {q:Nat→Int} {s p:Nat→Nat} (T:Twin g g' cap cap' s p) (hg:g.Ok) (h:Fine g cap x q) (h0:∀ v,v<g.N→Bs g x v=0) (h':Fine g' cap' x' p') (h0':∀ v,v<g'.N→Bs g' x' v=0):FO g x≤FO g' x':=by
 have hc:FO g (fun i=>x' (s i))=FO g' x':=by
  unfold FO
  rw [T.E,← TW (F:=fun i=>x' i*g'.co i) T.s1 T.s2]
  exact BU fun i hi=>by rw [T.co i hi]
 rw [← hc]
 refine Fine.best hg h h0 (fun i hi=>?_) fun v hv=>?_
 ·have h1:=h'.in' (s i) (by rw [T.E]; exact T.s1 i hi)
  rw [T.cap i hi] at h1
  exact h1
 ·have h1:=h0' (p v) (by rw [T.N]; exact T.p1 v hv)
  rw [← h1]
  unfold Bs D3
  rw [T.E,← TW (F:=fun i=>(one (g'.t i=p v) - one (g'.f i=p v))*x' i) T.s1 T.s2]
  refine BU fun i hi=>?_
  have hp:∀ u,u<g.N→(u=v↔p u=p v):=fun u hu=>⟨fun h=>by rw [h],fun h=>by rw [← T.p2 u hu,h,T.p2 v hv]⟩
  rw [T.t i hi,T.f i hi,KP (hp _ (hg.t i hi)),KP (hp _ (hg.f i hi))]
theorem Twin.eq {g g':Gr} {cap cap' x x' p':Nat→Int} {q:Nat→Int} {s p:Nat→Nat} (T:Twin g g' cap cap' s p) (hg:g.Ok) (hg':g'.Ok) (h:Fine g cap x q) (h0:∀ v,v<g.N→Bs g x v=0) (h':Fine g' cap' x' p') (h0':∀ v,v<g'.N→Bs g' x' v=0):FO g x=FO g' x' :=
 Int.le_antisymm (T.le hg h h0 h' h0') ((T.symm hg' hg).le hg' h' h0' h h0)
/-- The dues, named the other way round. -/
def flip (n:Nat) (a b:Du):Du:={ b with id:=a.id,fr:=(n:Int) - 1 - b.fr,to:=(n:Int) - 1 - b.to }
def turnD (n:Nat) (ds:List Du):List Du:=List.zipWith (flip n) ds ds.reverse
def mirE (n:Nat) (e:Ed):Ed:={ e with f:=(n:Int) - 1 - e.f,t:=(n:Int) - 1 - e.t }
/-- Where an edge lies in the other one. -/
def sigN (n m i:Nat):Nat:=if i<m then m - 1 - i else m+(2*(n - 1 - (i - m) / 2)+(i - m) % 2)
def piN (n v:Nat):Nat:=if v<n then n - 1 - v else v
end Go.Proofs.YtapphbmlkdhnmaaGreat

/- What planned rounds are worth: plain law. -/
namespace Go.Proofs.YtapphbmlkdhnmaaGreat
open Go.GV
attribute [local irreducible] A1 W Wq Wt

def costR (r:Rnd):Int:=FO (grE r.N r.es) (flE r.fl)
theorem Vi {N:Int} {es:List Ed} {fl:List Int} (k:Nat):Bn (fun i=>flE fl i*(grE N es).co i) (k+1)=Bn (fun i=>flE fl i*(grE N es).co i) k+flE fl k*(grE N es).co k:=rfl
theorem QN {N:Int} {es:List Ed} {fl:List Int} (hw:BJ N es fl=true):∀ k,k≤es.length → -((E6 (es.take k):Nat):Int)≤Bn (fun i=>flE fl i*(grE N es).co i) k∧Bn (fun i=>flE fl i*(grE N es).co i) k≤((E6 (es.take k):Nat):Int)
 | 0,_=>by
  show -((0:Nat):Int)≤0∧(0:Int)≤((0:Nat):Int)
  omega
 | k+1,hk=>by
  have ih:=QN hw k (by omega)
  obtain ⟨hl,-,hin⟩:=BA hw
  obtain ⟨e,he⟩:=A4 (l:=es) (i:=k) (by omega)
  obtain ⟨x,hx⟩:=A4 (l:=fl) (i:=k) (by omega)
  have h1:=hin k e x he hx
  have hp:(x*e.cost).natAbs≤Fz e:=by
   rw [Int.natAbs_mul]
   exact Nat.mul_le_mul_right _ (by omega)
  rw [Vi,J7 he,Ob he]
  unfold flE at ih ⊢
  rw [AU hx]
  obtain ⟨z,hz⟩:∃ z,z=x*e.cost:=⟨_,rfl⟩
  rw [← hz] at hp ⊢
  omega
theorem Zu {N:Int} {es:List Ed} {fl:List Int} (hw:BJ N es fl=true) {k:Nat} (hk:k≤es.length) : -4611686018427387904≤Bn (fun i=>flE fl i*(grE N es).co i) k∧Bn (fun i=>flE fl i*(grE N es).co i) k≤4611686018427387904:=by
 have h1:=QN hw k hk
 have h2:=(BX (BA hw).2.1).2.2.2.2
 have h3:=J8 es k
 omega
theorem TX {N:Int} {es:List Ed} {fl:List Int} (hw:BJ N es fl=true) {i:Nat} {e:Ed} {x:Int} (he:es[i]? = some e) (hx:fl[i]? = some x) : -4611686018427387904≤e.cost*x∧e.cost*x≤4611686018427387904:=by
 have h1:=(BA hw).2.2 i e x he hx
 have h2:=(BX (BA hw).2.1).2.2.2.2
 have h3:=J8 es (i+1)
 rw [J7 he] at h3
 have hp:(x*e.cost).natAbs≤Fz e:=by
  rw [Int.natAbs_mul]
  exact Nat.mul_le_mul_right _ (by omega)
 rw [Int.mul_comm]
 omega
theorem QO {f g:Nat→Int} {m:Nat}:∀ n,m≤n→(∀ i,i<m→f i=g i)→(∀ i,m≤i→i<n→f i=0)→Bn f n=Bn g m
 | 0,h,_,_=>by
  obtain rfl:m=0:=by omega
  rfl
 | n+1,h,h1,h2=>by
  rcases Nat.lt_or_ge n m with h3 | h3
  ·obtain rfl:m=n+1:=by omega
   exact BU h1
  ·show Bn f n+f n=_
   rw [QO n h3 h1 fun i hi hn=>h2 i hi (by omega),h2 n h3 (by omega),Int.add_zero]
end Go.Proofs.YtapphbmlkdhnmaaGreat

/- Nets that are the same; whether a round is one of now, as the reference has it. -/
namespace Go.Proofs.YtapphbmlkdhnmaaGreat
open Go.GV
attribute [local irreducible] A1 W Wq Wt

def sameB (N M:Int) (xs ys:List Ed):Bool:=decide (N=M) && decide (xs=ys)
/-- Dues of the reference, to be read. -/
def RdAt (w:World) (br:Nat) (ds:List Du):Prop:=∃ a c nx,w.heap[br]? = some (Bl 48 [.slice a ds.length c,.int .u64 nx])∧Rd w a 7 CP ds
theorem RdAt.ext0 {w w':World} {br:Nat} {ds:List Du} (h:RdAt w br ds) (he:Ext [] w w'):RdAt w' br ds:=by
 obtain ⟨a,c,nx,h1,h2⟩:=h
 exact ⟨a,c,nx,he.to h1 (by simp),h2.ext0 he⟩
end Go.Proofs.YtapphbmlkdhnmaaGreat

/- A round, applied as the reference has it. -/
namespace Go.Proofs.YtapphbmlkdhnmaaGreat
open Go.GV
attribute [local irreducible] A1 W Wq Wt

abbrev RDU (ad:Option Addr) (m cd:Nat) (nx:Int):Obj:=Bl 48 [.slice ad m cd,.int .u64 nx]
abbrev RX (ba:Nat) (a:Option Addr) (n c:Nat) (full:List Value) (br:Nat) (ad:Option Addr) (m cd:Nat) (nx:Int) (fd:List Value):List (Nat × Obj):=(ba,Bl 52 [.slice a n c])::(br,RDU ad m cd nx)::(ent ad 62 fd++ent a 64 full)
structure RP7 where
 i:Nat
 ad:Option Addr
 cd:Nat
 fd:List Value
end Go.Proofs.YtapphbmlkdhnmaaGreat

/- Accounts and dues, of the program's and of the reference: what the laws begin with. -/
namespace Go.Proofs.YtapphbmlkdhnmaaGreat
open Go.GV
attribute [local irreducible] A1 W Wq Wt

/-- Accounts and dues, twice. -/
structure Four where
 bx:Nat
 a:Option Addr
 c:Nat
 full:List Value
 bd:Nat
 b:Nat
 o:Obj
 ba:Nat
 ra:Option Addr
 rc:Nat
 rfull:List Value
 br:Nat
 ad:Option Addr
 cd:Nat
 fd:List Value
def Four.L (z:Four) (acs:List Ac) (ds:List Du) (nx:Int):List (Nat × Obj):=LX z.bx z.a acs.length z.c z.full z.bd z.b nx z.o++RX z.ba z.ra acs.length z.rc z.rfull z.br z.ad ds.length z.cd nx z.fd
structure Four.Ok (z:Four) (acs:List Ac) (ds:List Du):Prop where
 O:OS z.a acs.length z.c 2 z.full (acs.flatMap encA)
 M:J2 .u64 (dm ds) z.o
 RO:OS z.ra acs.length z.rc 2 z.rfull (acs.flatMap encA)
 RD:OS z.ad ds.length z.cd 7 z.fd (ds.flatMap CP)
def Aaa (acs:List Ac) (ds:List Du) (nx:Int):Bool:=decide (aofC acs=0) && decide (ofC ds nx=0)
def BothRes (w:World) (acs:List Ac) (ds:List Du) (nx:Int) (v:Value) (w':World):Prop :=
 (Aaa acs ds nx=false∧v = .tuple #[.pointer none,.pointer none,.pointer none,.pointer none,.bool false]∧Ext [] w w') ∨
  (Aaa acs ds nx=true∧∃ z:Four,v = .tuple #[ptr z.bx,ptr z.bd,ptr z.ba,ptr z.br,.bool true]∧z.Ok acs ds∧Ctx w [] w' (z.L acs ds nx))
end Go.Proofs.YtapphbmlkdhnmaaGreat

/- Plans and rounds among what else one holds; the chapter's example. -/
namespace Go.Proofs.YtapphbmlkdhnmaaGreat
open Go.GV
attribute [local irreducible] A1 W Wq Wt

theorem SM {α:Type} (B L R:List α):(B++(L++R)).Perm (L++(B++R)):=by
 classical exact List.perm_iff_count.2 fun x=>by simp only [List.count_append]; omega
theorem Ctx.mid {w0 w w':World} {S:List Nat} {B L L' R:List (Nat × Obj)} (H:Ctx w0 S w (B++(L++R))) (H':Ctx w (L.map (·.1)) w' L'):Ctx w0 S w' (B++(L'++R)) :=
 (Ctx.back (H.perm (SM B L R)) H').perm (SM B L' R).symm
theorem Ctx.in' {w0 w:World} {S:List Nat} {B L R:List (Nat × Obj)} (H:Ctx w0 S w (B++(L++R))):Ctx w (L.map (·.1)) w L:=Ctx.lend (H.perm (SM B L R))
theorem LX.du {bx:Nat} {a:Option Addr} {n c:Nat} {full:List Value} {bd b:Nat} {nx:Int} {o:Obj} {ds:List Du} {w0 w:World} {S:List Nat} (H:Ctx w0 S w (LX bx a n c full bd b nx o)) (hM:J2 .u64 (dm ds) o):DuAt w bd ds :=
 ⟨b,nx,o,H.get at1,H.get at2,hM⟩
theorem RX.du {ba:Nat} {a:Option Addr} {n c:Nat} {full:List Value} {br:Nat} {ad:Option Addr} {cd:Nat} {nx:Int} {fd:List Value} {ds:List Du} {w0 w:World} {S:List Nat} (H:Ctx w0 S w (RX ba a n c full br ad ds.length cd nx fd)) (O:OS ad ds.length cd 7 fd (ds.flatMap CP)):RdAt w br ds :=
 ⟨ad,cd,nx,H.get at1,OS.rd O (fun x hx=>H.blk x (List.mem_cons_of_mem _ (List.mem_cons_of_mem _ (List.mem_append_left _ hx)))) (fun _ _=>rfl) (by decide)⟩
theorem ROff.old {w0 w:World} {S:List Nat} {L:List (Nat × Obj)} {q:RSl} {r:Rnd} (H:Ctx w0 S w L) (h:ROff q r (fun x=>x<w.heap.size)):ROff q r (·∈L.map (·.1)) :=
 h.mono fun x hx=>by
  obtain ⟨y,hy,rfl⟩:=List.mem_map.1 hx
  exact Bp (H.blk y hy)
/-- Limits of a round that is held. -/
structure RBnd (r:Rnd):Prop where
 N:I64 r.N
 es:r.es.length≤1000000
 ids:r.ids.length≤1000000
 fl:r.fl.length≤1000000
 pot:r.pot.length≤1000000
/-! ### The example -/
abbrev xA0:List Ac:=[⟨5,0⟩,⟨0,0⟩]
abbrev xA1:List Ac:=[⟨0,0⟩,⟨5,0⟩]
abbrev xD0:List Du:=[⟨1,0,1,9,1,1,false⟩]
abbrev xD1:List Du:=[⟨1,0,1,4,1,1,false⟩]
abbrev xE0:List Ed:=[⟨0,1,9,-1⟩,⟨2,0,5,0⟩,⟨0,2,4503599627370496,0⟩,⟨2,1,0,0⟩,⟨1,2,4503599627370496,0⟩]
end Go.Proofs.YtapphbmlkdhnmaaGreat

/- Numbers of a slice, one by one, gathered and sorted. -/
namespace Go.Proofs.YtapphbmlkdhnmaaGreat
open Go.GV
attribute [local irreducible] A1 W Wq Wt

/-- A slice in a variable of its own. -/
structure ValK (b:Nat) (a:Option Addr) (n c:Nat) (xs:List Int) (w:World):Prop where
 h:w.heap[b]? = some (Bl 25 [.slice a n c])
 R:Rd w a 1 U1 xs
theorem ValK.ext {b:Nat} {a:Option Addr} {n c:Nat} {xs:List Int} {w w':World} {S:List Nat} (K:ValK b a n c xs w) (hx:Ext S w w') (h1:b∉S) (h2:xs≠[]→(adr a).block∉S):ValK b a n c xs w':=⟨hx.to K.h h1,K.R.ext' hx h2⟩
def TY (bk:Nat):Value := .func (.func 185) #[] #[ptr bk]
set_option maxRecDepth 20000 in
theorem X5 {b:Nat} {a:Option Addr} {n c:Nat} {xs:List Int} (hn:xs.length=n) (hn2:n≤1000000):Mk Tryz.prog 185 #[ptr b] [] (fun _ w=>ValK b a n c xs w) (xs.map fun x=>[.int .u64 x]):=by
 subst hn
 intro l w J E hJ0 hJs hEs hK hY
 obtain ⟨M0,hJ0⟩:=hJ0
 obtain ⟨w0,rfl⟩:∃ w0,w0=w:=⟨_,rfl⟩
 refine A0 (fn:=Tryz.f185) Tryz.func185 rfl [.func (.yield l) #[] #[],.pointer (some ⟨b,0,none⟩)] rfl (by kernel_rfl) ?_
 have K0:=(hK _ _ _ hJ0).2
 have H:=Ctx.start w0 []
 refine Af (AY rfl Fy rfl ((by rw [An K0.h]; rfl)) ?_)
 refine Be rfl Bd rfl (Ad rfl rfl (Ab (Aa (Av (Bm 65424 (α:=Nat) (fun i=>[(7,.int .i64 (i:Int))]) (fun i w'=>i≤xs.length∧∃ M,J i M w') (fun i=>xs.length - i) 0 rfl ?_ ?_ ?_)))))
 ·exact ⟨rfl,trivial⟩
 ·exact ⟨Nat.zero_le _,M0,hJ0⟩
 ·clear H
  rintro i j w ⟨hi,M,hJ⟩
  have R:=(hK _ _ _ hJ).2.R
  obtain ⟨w1,rfl⟩:∃ w1,w1=w:=⟨_,rfl⟩
  have H:=Ctx.start w1 []
  refine Af (AV rfl rfl rfl (Ab (Aa (Aq (Ax _ rfl ?_ ?_)))))
  ·intro h1
   replace h1:=AE h1
   obtain ⟨x,hx⟩:=A4 (l:=xs) (i:=i) (by omega)
   refine Aw (Aa (Aq (Av (Af (Ba R rfl Bd AZ rfl rfl (by omega) (by omega) (by rfl) ?_)))))
   refine AY rfl BD rfl ((R.fld hx rfl (j:=0) rfl)) ?_
   refine Ae rfl rfl (Ab (Aa (Af (BO rfl (.func _ _ _) rfl ?_))))
   refine Ad rfl rfl ?_
   have hY1:=hY i [.int .u64 x] M _ (by rw [List.getElem?_map,hx]; rfl) (hJs _ _ _ _ hJ H.ext)
   refine FI (vs:=[.int .u64 x]) rfl rfl hY1 rfl ?_
   rintro u w hu
   clear H
   obtain ⟨bb,rfl,hu1,hu0⟩:∃ bb,u = .bool bb∧(bb=true→∃ M,J (i+1) M w)∧(bb=false→E w):=hu.elim (fun h=>⟨true,h.1,fun _=>let ⟨M',h1,_⟩:=h.2; ⟨M',h1⟩,fun h=>by cases h⟩) (fun h=>⟨false,h.1,(fun h=>by cases h),fun _=>h.2⟩)
   refine Bv rfl rfl (Ab (Aa (Ax _ rfl ?_ ?_)))
   ·intro h2
    replace h2:=B0 h2
    refine A9 (A7 (Am (Am (A7 (EN rfl rfl ?_)))))
    exact .inr (hu0 (by simpa using h2))
   ·intro h2
    replace h2:=B1 h2
    refine Aw (A2 (Aa (Ap (Ao rfl rfl rfl (by omega) (by omega) ?_))))
    refine Ad rfl rfl (Ab (Aa ?_))
    exact ⟨i+1,rfl,⟨rfl,trivial⟩,⟨by omega,hu1 (by simpa using h2)⟩,by omega⟩
  ·intro h1
   replace h1:=AF h1
   obtain rfl:i=xs.length:=by omega
   refine Bh (Aj (Aj (AB (CG rfl rfl ?_))))
   exact .inl ⟨M,by rw [List.length_map]; exact hJ⟩
theorem Vj (a:Option Addr) (n c:Nat) (w:World):Ret Tryz.prog 153 #[.slice a n c] w fun v w'=>∃ bk,v=TY bk∧w'.heap[bk]? = some (Bl 25 [.slice a n c])∧w.heap.size≤bk∧Ext [] w w':=by
 obtain ⟨w0,rfl⟩:∃ w0,w0=w:=⟨_,rfl⟩
 have H:=Ctx.start w0 []
 refine A0 (fn:=Tryz.f153) Tryz.func153 rfl [.slice a n c] rfl (by kernel_rfl) ?_
 refine Af (B2 rfl _ (.slice _ _ _) rfl rfl H ?_)
 rintro b1 w - H
 refine BN rfl .nilFunc rfl ?_
 refine Ab (Aa (Af (Ch rfl [.pointer _] rfl (BN rfl (.func _ _ _) rfl ?_))))
 refine Ab (Aa (A9 (AC (v:=(.func _ _ _)) rfl rfl rfl ?_)))
 exact ⟨_,rfl,H.get at0,(H.own _ (List.mem_cons_self ..)).elim (fun h=>by cases h) id,H.ext⟩
/-- What the rounds leave. -/
def apvJ (w0:World) (bk:Nat) (a0:Option Addr) (n0 c0:Nat) (xs:List Int) (bb k:Nat) (i:Nat) (M:Mt) (w:World):Prop :=
 ∃ a c full,(M=fun y=>y∈((bb,Bl 25 [.slice a i c])::ent a 24 full).map (·.1))∧Ctx w0 [] w ((bb,Bl 25 [.slice a i c])::ent a 24 full) ∧
  OS a i c 1 full ((xs.take i).map EP)∧(∀ x∈full,∃ z,x=EP z)∧ValK bk a0 n0 c0 xs w∧∀ y∈((bb,Bl 25 [.slice a i c])::ent a 24 full).map (·.1),y≠k∧y≠k+1
set_option maxRecDepth 20000 in
set_option maxHeartbeats 2000000 in
theorem SN {bk:Nat} {a0:Option Addr} {n0 c0:Nat} {xs:List Int} (hn:xs.length=n0) (hm:n0≤1000000) (w:World) (K:ValK bk a0 n0 c0 xs w) :
  Ret Tryz.prog 173 #[.slice none 0 0,TY bk] w fun v w'=>FreshU w w' v xs:=by
 obtain ⟨w0,rfl⟩:∃ w0,w0=w:=⟨_,rfl⟩
 have H:=Ctx.start w0 []
 have lk:=Bp K.h
 have lR:=K.R.lt' (fun _ _=>rfl) (by decide)
 refine Gg (fn:=Tryz.f173) Tryz.func173 rfl [.slice none 0 0,.func (.func 185) #[] #[.pointer (some ⟨bk,0,none⟩)]] rfl (by kernel_rfl) ?_
 refine Af (B2 rfl _ (.slice _ _ _) rfl rfl H ?_)
 rintro b2 w - H
 refine A6 rfl rfl (Ab (Aa (Aq (Af (BO rfl (.func _ _ _) rfl ?_)))))
 refine Ab (Aa (Av ?_))
 obtain ⟨ws,rfl⟩:∃ z,z=w:=⟨_,rfl⟩
 have hb2:=(H.own _ (List.mem_cons_self ..)).elim (fun h=>by cases h) id
 have l2:=H.lt at0
 have hsz:=H.size
 dsimp only at hb2
 have K2:ValK bk a0 n0 c0 xs ws:=K.ext H.ext (by simp) (by simp)
 refine JR (gf:=185) rfl Abz (X5 (b:=bk) (a:=a0) (c:=c0) hn hm) (by kernel_rfl) (by kernel_rfl) (fun v hv=>by obtain ⟨p,-,rfl⟩:=List.mem_map.1 hv; rfl)
  (apvJ w0 bk a0 n0 c0 xs b2 ws.heap.size) (fun _=>False) (by simp)
  (fun w2 hx2 _=>⟨_,none,0,[],rfl,H.call hx2,OS.nil,by simp,K2.ext hx2 (by simp) (by simp),by simp [ent]; omega⟩)
  (fun i M w' w'' hJ hx=>?_) (fun _ _ h _=>h) (fun i M w' hJ=>?_) ?_ ?_ (fun _ h _=>h.elim)
 ·obtain ⟨a,c,full,hMM,HJ,O,Z,KJ,hne⟩:=hJ
  refine ⟨a,c,full,hMM,HJ.step hx (fun y hy hy2=>?_) (fun x hx => .inr ?_),O,Z,KJ.ext hx (fun h=>?_) (fun hne' h=>?_),hne⟩
  ·have:=hne _ (List.mem_map_of_mem (f:=(·.1)) hy)
   simp only [List.mem_cons,List.not_mem_nil,or_false] at hy2
   omega
  ·simp only [List.mem_cons,List.not_mem_nil,or_false] at hx
   omega
  ·simp only [List.mem_cons,List.not_mem_nil,or_false] at h
   omega
  ·have:=lR hne'
   simp only [List.mem_cons,List.not_mem_nil,or_false] at h
   omega
 ·obtain ⟨a,c,full,hMM,HJ,O,Z,KJ,hne⟩:=hJ
  refine ⟨fun x hx=>?_,KJ⟩
  rw [hMM] at hx
  obtain ⟨y,hy,rfl⟩:=List.mem_map.1 hx
  exact ⟨Bp (HJ.blk y hy),hne _ hx⟩
 ·rintro i v M w hxv ⟨a,c,full,rfl,HJ,O,Z,KJ,hne⟩ hsz2
  rw [List.getElem?_map] at hxv
  obtain ⟨x,hxi,rfl⟩:=Option.map_eq_some_iff.1 hxv
  have hil:=Cr hxi
  obtain ⟨w1,rfl⟩:∃ z,z=w:=⟨_,rfl⟩
  refine Ap (Ae rfl rfl (Ab ?_))
  refine ⟨Ext.refl _ _,fun wB hxB=>?_⟩
  have HB:=HJ.step hxB (fun y hy h=>(hne _ (List.mem_map_of_mem (f:=(·.1)) hy)).2 (List.mem_singleton.1 h)) (fun z hz => .inr (by rw [List.mem_singleton.1 hz]; omega))
  have KB:ValK bk a0 n0 c0 xs wB:=KJ.ext hxB (by rw [List.mem_singleton]; omega) (fun hne'=>by have:=lR hne'; rw [List.mem_singleton]; omega)
  have hown:∀ y∈((b2,Bl 25 [.slice a i c])::ent a 24 full).map (·.1),w0.heap.size≤y:=fun y hy=>by
   obtain ⟨z,hz,rfl⟩:=List.mem_map.1 hy
   exact (HJ.own z hz).elim (fun h=>by cases h) id
  have hsB:=hxB.size
  obtain ⟨w2,rfl⟩:∃ z,z=wB:=⟨_,rfl⟩
  rw [← List.append_nil ((b2,Bl 25 [.slice a i c])::ent a 24 full)] at HB
  have H:=Ctx.lend (L1:=(b2,Bl 25 [.slice a i c])::ent a 24 full) (L2:=[]) HB
  obtain ⟨SS,hSS⟩:∃ SS,SS=((b2,Bl 25 [.slice a i c])::ent a 24 full).map (·.1):=⟨_,rfl⟩
  rw [← hSS] at H
  refine Av (Ap (AM rfl Fy rfl H at0 rfl (Ad rfl rfl (Db _ (.int _ _) rfl Bd AZ M1 rfl (by decide) (by decide) rfl rfl rfl H ?_))))
  rintro b10 w - H
  refine Qn (L:=[_]) rfl Bd Bd AZ Wa M1 rfl (by decide) rfl rfl H O rfl (by simp [Bu]) (by omega) ?_
  rintro a' c' full' w H O Z2
  refine BV (.slice _ _ _) rfl ZU rfl rfl rfl H at0 (by (simp; done)) ?_
  rintro w H
  refine Ab (A2 ?_)
  rw [hSS] at H
  have HE:=H.ext
  refine ⟨_,⟨a',c',full',rfl,by rw [← List.append_nil (_::ent a' _ full')]; exact Ctx.back HB H,by rw [Cv hxi,List.map_append]; exact O,fun x hx=>?_,KB.ext HE (fun h=>by have:=hown _ h; omega) (fun hne' h=>by have:=hown _ h; have:=lR hne'; omega),fun y hy=>?_⟩,fun y hy=>?_,_,HE,fun y hy => .inl hy⟩
  ·rcases Z2 x hx with h | h | h
   ·exact Z x h
   ·exact ⟨_,List.mem_singleton.1 h⟩
   ·exact ⟨_,List.mem_singleton.1 h⟩
  ·obtain ⟨z,hz,rfl⟩:=List.mem_map.1 hy
   rcases H.own z hz with h | h
   ·exact hne _ h
   ·omega
  ·obtain ⟨z,hz,rfl⟩:=List.mem_map.1 hy
   exact (H.own z hz).imp id fun h=>by omega
 ·rintro M w ⟨a,c,full,rfl,HJ,O,Z,KJ,hne⟩ hD
  rw [List.length_map] at HJ O hne
  rw [List.take_length] at O
  have H:=HJ
  refine A2 (Aa (Af (AM rfl Fy rfl H at0 rfl (A6 rfl rfl (Ab (Aa (A9 (JP (v:=(.slice _ _ _)) rfl rfl (Gh hD rfl fun wF hxF=>?_)))))))))
  have HF:=H.step hxF (fun y hy h=>(hne _ (List.mem_map_of_mem (f:=(·.1)) hy)).1 (List.mem_singleton.1 h)) (fun z hz => .inr (by rw [List.mem_singleton.1 hz]; omega))
  refine ⟨⟨a,xs.length,c,full,rfl,O,Z,fun x hx=>⟨HF.blk x (List.mem_cons_of_mem _ hx),(HF.own x (List.mem_cons_of_mem _ hx)).elim (fun h=>by cases h) id⟩⟩,HF.ext⟩
theorem QP {bk:Nat} {a0:Option Addr} {n0 c0:Nat} {xs:List Int} (hn:xs.length=n0) (hm:n0≤1000000) (w:World) (K:ValK bk a0 n0 c0 xs w) :
  Ret Tryz.prog 121 #[TY bk] w fun v w'=>FreshU w w' v xs:=by
 obtain ⟨w0,rfl⟩:∃ w0,w0=w:=⟨_,rfl⟩
 refine A0 (fn:=Tryz.f121) Tryz.func121 rfl [.func (.func 185) #[] #[.pointer (some ⟨bk,0,none⟩)]] rfl (by kernel_rfl) ?_
 refine Af (A6 rfl rfl (Ab (Aa (Af (BO rfl (.func _ _ _) rfl ?_)))))
 refine Al rfl Abx (SN hn hm _ K) rfl ?_
 rintro v w F
 obtain ⟨a,n,c,full,rfl,O,Z,hb⟩:=F.ex
 refine A6 rfl rfl (Ab (Aa (A9 (AC (v:=(.slice _ _ _)) rfl rfl rfl ?_))))
 exact F
theorem SO {bk:Nat} {a0:Option Addr} {n0 c0:Nat} {xs:List Int} (hn:xs.length=n0) (hm:n0≤1000000) (w:World) (K:ValK bk a0 n0 c0 xs w) :
  Ret Tryz.prog 61 #[TY bk] w fun v w'=>∃ l:List Int,l.Perm xs∧l.Pairwise (·≤·)∧FreshU w w' v l:=by
 obtain ⟨w0,rfl⟩:∃ w0,w0=w:=⟨_,rfl⟩
 refine A0 (fn:=Tryz.f61) Tryz.func61 rfl [.func (.func 185) #[] #[.pointer (some ⟨bk,0,none⟩)]] rfl (by kernel_rfl) ?_
 refine Af (A6 rfl rfl (Ab (Aa (Af (BO rfl (.func _ _ _) rfl ?_)))))
 refine Al rfl Aa6 (QP hn hm _ K) rfl ?_
 rintro v w F
 obtain ⟨a,n,c,full,rfl,O,Z,hb⟩:=F.ex
 have hx5:=F.ext
 have hvn:=O.llen
 rw [List.length_map] at hvn
 refine A6 rfl rfl (Ab (Aa (Af (Ak rfl rfl (Al rfl Aa7 (sortF _ O Z (fun x hx=>(hb x hx).1) (by omega)) rfl ?_)))))
 rintro v w ⟨rfl,full',l',hP,hS,O',Z',hb',hx7⟩
 refine Ab (Aa (Af (Ak rfl rfl (A6 rfl rfl (Ab (Aa (A9 (AC (v:=(.slice _ _ _)) rfl rfl rfl ?_))))))))
 refine ⟨l',hP,hS,⟨_,_,_,_,rfl,O',Z',fun x hx=>⟨hb' x hx,?_⟩⟩,hx5.then hx7 fun x hx=>?_⟩
 ·cases a with
  | none=>simp [ent] at hx
  | some p =>
   simp only [ent,List.mem_singleton] at hx
   subst hx
   exact (hb (p.block,Bl 24 full) (by simp [ent])).2
 ·obtain ⟨y,hy,rfl⟩:=List.mem_map.1 hx
  exact .inr (hb y hy).2
end Go.Proofs.YtapphbmlkdhnmaaGreat

/- Whether no number comes twice. -/
namespace Go.Proofs.YtapphbmlkdhnmaaGreat
open Go.GV
attribute [local irreducible] A1 W Wq Wt

theorem Vk {l:List Int} (hs:l.Pairwise (·≤·)):l.Nodup↔∀ (j:Nat) (x y:Int),l[j]? = some x→l[j+1]? = some y→x≠y:=by
 rw [List.Nodup,List.pairwise_iff_getElem]
 rw [List.pairwise_iff_getElem] at hs
 constructor
 ·intro h j x y hx hy
  obtain ⟨h1,rfl⟩:=List.getElem?_eq_some_iff.1 hx
  obtain ⟨h2,rfl⟩:=List.getElem?_eq_some_iff.1 hy
  exact h j (j+1) h1 h2 (by omega)
 ·intro h i j hi hj hij
  obtain ⟨k,rfl⟩:∃ k,j=k+1:=⟨j - 1,by omega⟩
  have h1:=h k _ _ (List.getElem?_eq_getElem (by omega)) (List.getElem?_eq_getElem hj)
  have h2:=hs k (k+1) (by omega) hj (by omega)
  rcases Nat.lt_or_ge i k with h3 | h3
  ·have:=hs i k hi (by omega) h3
   omega
  ·obtain rfl:i=k:=by omega
   exact h1
structure CmZ where
 k:Nat
 k2:Nat
 g:Nat→Int
set_option maxRecDepth 20000 in
set_option maxHeartbeats 2000000 in
theorem QQ {b n c:Nat} {f:Nat→Int} (w:World) (hb:w.heap[b]? = some (Bl 24 (Cw f c))) (hn:n≤c) (hm:n≤1000000) :
  Ret Tryz.prog 154 #[.slice (some ⟨b,0,none⟩) n c] w fun v w'=>∃ m,v = .slice (some ⟨b,0,none⟩) m c∧(m=n↔∀ j,j+1<n→f j≠f (j+1))∧Ext [b] w w':=by
 obtain ⟨w0,rfl⟩:∃ w0,w0=w:=⟨_,rfl⟩
 have H:=Ctx.start1 hb
 refine A0 (fn:=Tryz.f154) Tryz.func154 rfl [.slice (some ⟨b,0,none⟩) n c] rfl (by kernel_rfl) ?_
 refine Af (A6 rfl rfl (Ab (Aa (Aq (Af (Ak rfl rfl (Be rfl Bd rfl (AV rfl rfl rfl (Ab (Aa (Ax _ rfl ?_ ?_)))))))))))
 ·intro h1
  replace h1:=AE h1
  refine Af (Ak rfl rfl (A6 rfl rfl (Ab (Aa (A9 (Am (AC (v:=(.slice _ _ _)) rfl rfl rfl ?_)))))))
  exact ⟨n,rfl,⟨fun _ j hj=>by omega,fun _=>rfl⟩,H.ext⟩
 ·intro h1
  replace h1:=AF h1
  refine Aw (Aa (Aq (Af (Ae rfl rfl (Ab (Aa (Av (Bm 1152921504606846012 (α:=Nat) (fun i=>[(3,.int .i64 (i:Int))]) (fun i w'=>(1≤i∧i≤n)∧(∀ j,j+1<i→f j≠f (j+1))∧Ctx w0 [b] w' [(b,Bl 24 (Cw f c))]) (fun i=>n - i) 1 rfl ?_ ?_ ?_))))))))
  ·exact ⟨rfl,trivial⟩
  ·exact ⟨⟨Nat.le_refl _,by omega⟩,fun j hj=>by omega,H⟩
  ·clear H
   rintro i jj w ⟨⟨hi1,hi⟩,hd,H⟩
   refine Aq (Af (Ad rfl rfl (Ak rfl rfl (Be rfl Bd rfl (AV rfl rfl rfl (Ab (Aa (Ax _ rfl ?_ ?_))))))))
   ·intro h2
    replace h2:=AE h2
    refine Aw (Aa (Aq (Av (FV (fun x=>x=_) Bz (by kernel_rfl) rfl ?_))))
    refine Cn rfl rfl (AR rfl rfl (AK rfl Bd AZ rfl rfl (by omega) (by omega) ?_))
    refine Tm i _ rfl BD rfl (by rintro _ rfl; exact H.drew) at0 (by simp) (by omega) rfl ?_
    refine Cn rfl rfl (AR rfl rfl (Dw rfl rfl rfl (by omega) (by omega) ?_))
    refine AK rfl Bd AZ rfl rfl (by omega) (by omega) ?_
    refine Tm (i - 1) _ rfl BD rfl (by rintro _ rfl; exact H.drew) at0 (by omega) (by omega) rfl ?_
    refine Tl rfl rfl rfl (BW ?_)
    rintro _ rfl
    replace H:=H.drew
    refine Ax _ rfl ?_ ?_
    ·intro h3
     replace h3:=AE h3
     have hc1:¬ c=(i:Int).toNat:=by omega
     have hcut:JM (some ⟨b,0,none⟩) c (i:Int).toNat 1=some ⟨b,i,none⟩:=by
      unfold JM
      rw [if_neg hc1,Int.toNat_natCast,Nat.mul_one]
      show some (Addr.add ⟨b,0,none⟩ i)=_
      rw [Cu,Nat.zero_add]
     refine Af (Ak rfl rfl (Ad rfl rfl (FG rfl Bd AZ rfl rfl (by omega) (by omega) ?_)))
     rw [hcut,Int.toNat_natCast]
     refine A6 rfl rfl (Ab (Aa (Aq (Af (Ae rfl rfl (Ab (Aa (Av (Bm 18014397972611112 (α:=CmZ) (fun z=>[(3,.int .i64 (z.k:Int)),(5,.int .i64 (z.k2:Int))]) (fun z w'=>(1≤z.k2∧i+z.k2≤n)∧(i≤z.k∧z.k+1≤i+z.k2)∧(∀ q,i+z.k2≤q+1→z.g q=f q)∧Ctx w0 [b] w' [(b,Bl 24 (Cw z.g c))]) (fun z=>n - z.k2) ⟨i,1,f⟩ rfl ?_ ?_ ?_)))))))))
     ·exact ⟨rfl,rfl,trivial⟩
     ·exact ⟨⟨Nat.le_refl _,by dsimp only; omega⟩,⟨Nat.le_refl _,Nat.le_refl _⟩,fun _ _=>rfl,H⟩
     ·clear H
      rintro ⟨k,k2,g⟩ jj2 w ⟨⟨hk1,hk2⟩,⟨hk3,hk4⟩,hg,H⟩; dsimp only at hk1 hk2 hk3 hk4 hg H; dsimp only
      refine Aq (Af (Ad rfl rfl (Ak rfl rfl (Be rfl Bd rfl (AV rfl rfl rfl (Ab (Aa (Ax _ rfl ?_ ?_))))))))
      ·intro h4
       replace h4:=AE h4
       refine Aw (Aa (Aq (Av (FV (fun x=>x=_) Bz (by kernel_rfl) rfl ?_))))
       refine Cn rfl rfl (AR rfl rfl (AK rfl Bd AZ rfl rfl (by omega) (by omega) ?_))
       refine Tm (i+k2) _ rfl BD rfl (by rintro _ rfl; exact H.drew) at0 (by omega) (by omega) rfl ?_
       refine Cn rfl rfl (AR rfl rfl (Dw rfl rfl rfl (by omega) (by omega) ?_))
       refine AK rfl Bd AZ rfl rfl (by omega) (by omega) ?_
       refine Tm (i+k2 - 1) _ rfl BD rfl (by rintro _ rfl; exact H.drew) at0 (by omega) (by omega) rfl ?_
       refine VD rfl rfl rfl (BW ?_)
       rintro _ rfl
       replace H:=H.drew
       refine Ax _ rfl ?_ ?_
       ·intro h5
        replace h5:=Dz h5
        refine Af (Ak rfl rfl (Ad rfl rfl (Ak rfl rfl (Ad rfl rfl (Bg rfl Bd AZ rfl rfl (by omega) (by omega) ?_)))))
        refine RJ (i+k2) _ rfl BD rfl H at0 (by omega) (by omega) rfl ?_
        refine Bg rfl Bd AZ rfl rfl (by omega) (by omega) ?_
        refine BM k (fun q => .int .u64 (upd g k (g (i+k2)) q)) (.int _ _) rfl AZ rfl rfl rfl H at0 (by omega) (by omega) (by rw [CW]) (fun q _ hq=>by rw [DG hq]) ?_
        rintro w H
        refine Ab (Aa (Ap (Ad rfl rfl (Ao rfl rfl rfl (by omega) (by omega) ?_))))
        refine Ae rfl rfl (Ab (A2 (Aa (Ap (Ad rfl rfl (Ao rfl rfl rfl (by omega) (by omega) ?_))))))
        refine Ae rfl rfl (Ab (Aa ?_))
        exact ⟨⟨k+1,k2+1,upd g k (g (i+k2))⟩,rfl,⟨rfl,rfl,trivial⟩,⟨⟨by dsimp only; omega,by dsimp only; omega⟩,⟨by dsimp only; omega,by dsimp only; omega⟩,fun q hq=>by dsimp only at hq ⊢; rw [DG (by omega)]; exact hg q (by omega),H⟩,by dsimp only; omega⟩
       ·intro h5
        replace h5:=D0 h5
        refine Aw (A2 (Aa (Ap (Ad rfl rfl (Ao rfl rfl rfl (by omega) (by omega) ?_)))))
        refine Ae rfl rfl (Ab (Aa ?_))
        exact ⟨⟨k,k2+1,g⟩,rfl,⟨rfl,rfl,trivial⟩,⟨⟨by dsimp only; omega,by dsimp only; omega⟩,⟨by dsimp only; omega,by dsimp only; omega⟩,fun q hq=>by dsimp only at hq ⊢; exact hg q (by omega),H⟩,by dsimp only; omega⟩
      ·intro h4
       replace h4:=AF h4
       have hc2:¬ c=(k:Int).toNat:=by omega
       have hcut2:JM (some ⟨b,0,none⟩) c (k:Int).toNat 1=some ⟨b,k,none⟩:=by
        unfold JM
        rw [if_neg hc2,Int.toNat_natCast,Nat.mul_one]
        show some (Addr.add ⟨b,0,none⟩ k)=_
        rw [Cu,Nat.zero_add]
       refine Bh (Aj (Aj (AB (Aa (Af (Ak rfl rfl (Ad rfl rfl (FG rfl Bd AZ rfl rfl (by omega) (by omega) ?_))))))))
       rw [hcut2,Int.toNat_natCast]
       refine IX rfl Bd M1 rfl (by simp [Bu]) rfl H at0 (by simp; omega) ?_
       rintro w H
       refine Ab (Aa (Af (Ak rfl rfl (Ad rfl rfl (FH rfl Bd AZ rfl rfl (by omega) (by omega) ?_)))))
       refine A6 rfl rfl (Ab (Aa (A9 (A7 (Am (Am (A7 (Am (AC (v:=(.slice _ _ _)) rfl rfl rfl ?_)))))))))
       refine ⟨k,by rw [Int.toNat_natCast],⟨fun h=>by omega,fun h=>absurd ?_ (h (i - 1) (by omega))⟩,H.ext⟩
       rw [show i - 1+1=i by omega]
       exact h3.symm
    ·intro h3
     replace h3:=AF h3
     refine Aw (A2 (Aa (Ap (Ad rfl rfl (Ao rfl rfl rfl (by omega) (by omega) ?_)))))
     refine Ae rfl rfl (Ab (Aa ?_))
     refine ⟨i+1,rfl,⟨rfl,trivial⟩,⟨⟨by omega,by omega⟩,fun j hj=>?_,H⟩,by omega⟩
     rcases Nat.lt_or_ge (j+1) i with h7 | h7
     ·exact hd j h7
     ·obtain rfl:i=j+1:=by omega
      exact fun h=>h3 (by rw [show j+1 - 1=j by omega]; exact h.symm)
   ·intro h2
    replace h2:=AF h2
    obtain rfl:i=n:=by omega
    refine Bh (Aj (Aj (AB (Aa (Af (Ak rfl rfl (A6 rfl rfl (Ab (Aa (A9 (AC (v:=(.slice _ _ _)) rfl rfl rfl ?_)))))))))))
    exact ⟨i,rfl,⟨fun _=>hd,fun _=>rfl⟩,H.ext⟩
theorem SP {a:Option Addr} {n c:Nat} {full:List Value} {l:List Int} (w:World) (O:OS a n c 1 full (l.map EP)) (Z:∀ x∈full,∃ z,x=EP z) (hb:∀ x∈ent a 24 full,w.heap[x.1]? = some x.2) (hs:l.Pairwise (·≤·)) (hm:n≤1000000) :
  Ret Tryz.prog 154 #[.slice a n c] w fun v w'=>∃ m,v = .slice a m c∧(m=n↔l.Nodup)∧Ext ((ent a 24 full).map (·.1)) w w':=by
 cases a with
 | none =>
  obtain rfl:n=0:=by have:=O.none' rfl; have:=O.le; omega
  have hl:l=[]:=by have:=O.llen; rw [List.length_map] at this; exact List.eq_nil_of_length_eq_zero (by omega)
  subst hl
  refine A0 (fn:=Tryz.f154) Tryz.func154 rfl [.slice none 0 c] rfl (by kernel_rfl) ?_
  refine Af (A6 rfl rfl (Ab (Aa (Aq (Af (Ak rfl rfl (Be rfl Bd rfl (AV rfl rfl rfl (Ab (Aa (CI rfl ?_)))))))))))
  refine Af (Ak rfl rfl (A6 rfl rfl (Ab (Aa (A9 (Am (AC (v:=(.slice _ _ _)) rfl rfl rfl ?_)))))))
  exact ⟨0,rfl,⟨fun _=>List.Pairwise.nil,fun _=>rfl⟩,Ext.refl _ _⟩
 | some p =>
  have hp:=O.zero p rfl
  obtain ⟨q,o,sp⟩:=p
  simp only [Addr.mk.injEq,true_and] at hp
  obtain ⟨rfl,rfl⟩:=hp
  obtain ⟨zs,rfl⟩:=Ps full Z
  have hlen:=O.len
  rw [List.length_map,Nat.mul_one] at hlen
  have hpre:=O.pre
  rw [Nat.mul_one,← List.map_take] at hpre
  have hpre:=KO hpre
  have hzs:tab (fun i=>zs.getD i 0) c=zs:=by rw [← hlen]; exact Su zs
  have hb0:w.heap[q]? = some (Bl 24 (Cw (fun i=>zs.getD i 0) c)):=by
   rw [Ki,hzs]
   exact hb (q,Bl 24 (zs.map EP)) (List.mem_singleton.2 rfl)
  refine Ret.mono (QQ (c:=c) w hb0 O.le hm) ?_
  rintro v w' ⟨m,rfl,hmn,hx⟩
  have hS0:((ent (some ⟨q,0,none⟩) 24 (zs.map EP)).map (·.1))=[q]:=by simp [ent]
  have hle:=O.le
  have hget:∀ j,j<n→l[j]? = some (zs.getD j 0):=fun j hj=>by
   obtain ⟨z,hz⟩:=A4 (l:=zs) (i:=j) (by omega)
   rw [← hpre,List.getElem?_take,if_pos hj,hz,AU hz]
  have hll:l.length=n:=by rw [← hpre,List.length_take]; omega
  refine ⟨m,rfl,hmn.trans ?_,by rw [hS0]; exact hx⟩
  rw [Vk hs]
  constructor
  ·intro h j x y hx hy
   have h1:=Cr hy
   rw [hget j (by omega)] at hx
   rw [hget (j+1) (by omega)] at hy
   cases hx; cases hy
   exact h j (by omega)
  ·intro h j hj
   exact h j _ _ (hget j (by omega)) (hget (j+1) hj)
theorem Zv (a:Option Addr) (n c:Nat) (xs:List Int) (w:World) (R:Rd w a 1 U1 xs) (hn:xs.length=n) (hm:n≤1000000) :
  Ret Tryz.prog 93 #[.slice a n c] w fun v w'=>v = .bool (decide xs.Nodup)∧Ext [] w w':=by
 subst hn
 obtain ⟨w0,rfl⟩:∃ w0,w0=w:=⟨_,rfl⟩
 have H:=Ctx.start w0 []
 refine A0 (fn:=Tryz.f93) Tryz.func93 rfl [.slice a xs.length c] rfl (by kernel_rfl) ?_
 refine Af (Ai rfl rfl (Ab (Aa (Af (Ak rfl rfl (Al rfl Abh (Vj a _ c _) rfl ?_))))))
 rintro v w ⟨bk,rfl,hbk,-,hx5⟩
 replace H:=H.call hx5
 refine Al rfl ca_61 (SO rfl hm _ ⟨hbk,R.ext0 H.ext⟩) rfl ?_
 rintro v w ⟨l,hP,hS,F⟩
 obtain ⟨a6,n6,c6,f6,rfl,O6,Z6,hb6⟩:=F.ex
 have hx06:=H.ext.trans F.ext
 have hl6:=O6.llen
 rw [List.length_map,hP.length_eq] at hl6
 have hs6:=H.size
 refine A6 rfl rfl (Ab (Aa (Af (Ak rfl rfl (Al rfl Abi (SP _ O6 Z6 (fun x hx=>(hb6 x hx).1) hS (by omega)) rfl ?_)))))
 rintro v w ⟨m,rfl,hm8,hx8⟩
 refine Be rfl Bd rfl (Ak rfl rfl (Be rfl Bd rfl (Cg rfl rfl rfl (Ai rfl rfl (Ab (Aa (A9 (AC (v:=(.bool _)) rfl rfl rfl ?_))))))))
 refine ⟨congrArg Value.bool ?_,hx06.then hx8 fun x hx=>?_⟩
 ·rw [Bool.eq_iff_iff,decide_eq_true_eq,decide_eq_true_eq,← hP.nodup_iff,← hm8]
  omega
 ·obtain ⟨y,hy,rfl⟩:=List.mem_map.1 hx
  exact .inr (by have:=(hb6 y hy).2; omega)
end Go.Proofs.YtapphbmlkdhnmaaGreat

/- Whether a round is right: the walk of the program's. -/
namespace Go.Proofs.YtapphbmlkdhnmaaGreat
open Go.GV
attribute [local irreducible] A1 W Wq Wt

section
variable {P:Program} {r:Option Nat} {ops rest:List Oper} {Q:Exit→Env→World→Prop} {e:Env} {w:World} {C:World→Prop} {K:Env→Prop}
 {dst:Option Tmp} {ty:TypeId} {pos:String} {af:Array Edge} {g:Option (Nat × Bool)} {t t2:TypeId} {x y:Operand}
theorem Aab {ks:List Bool} {xs ys:List Value} (b:Bool) (hg:AG ⟨dst,.binOp .neq t x y t2,ty,pos,af,g⟩ ops e=true) (h:Mm P t ks=true) (hx:ev e x = .agg xs.toArray) (hy:ev e y = .agg ys.toArray) (hL:Qo ks xs ys) (hb:b=true↔xs=ys)
  (hk:Wt P ops C K rest (put e dst (.bool (!b)))):Wt P ops C K (⟨dst,.binOp .neq t x y t2,ty,pos,af,g⟩::rest) e:=EV hg (fun w _=>YA h hx hy hL hb w) hk
end
theorem Ga (r:Rnd) (q:RSl) (w:World) (hN : -9223372036854775808<r.N∧r.N≤9223372036854775807):Ret Tryz.prog 87 #[.agg (AJ r q).toArray] w fun v w'=>v = .int .i64 (r.N - 1)∧Ext [] w w':=by
 obtain ⟨w0,rfl⟩:∃ w0,w0=w:=⟨_,rfl⟩
 have H:=Ctx.start w0 []
 refine A0 (fn:=Tryz.f87) Tryz.func87 rfl [.agg (AJ r q).toArray] rfl (by kernel_rfl) ?_
 refine Af (B2 rfl (AJ r q) (.agg _) rfl rfl H ?_)
 rintro b1 w - H
 refine Ae rfl rfl (Ab (Aa (Af (Ah rfl Fo rfl (Ah rfl Fm rfl (AM rfl BS rfl H at0 rfl (Bc rfl rfl rfl (by omega) (by omega) ?_)))))))
 refine Ae rfl rfl (Ab (Aa (A9 (AC (v:=(.int _ _)) rfl rfl rfl ?_))))
 exact ⟨rfl,H.ext⟩
theorem Aac (r:Rnd) (q:RSl) (k room:Int) (w:World) (hN : -9223372036854775808<r.N∧r.N≤9223372036854775807):Ret Tryz.prog 82 #[.agg (AJ r q).toArray,.int .i64 k,.int .i64 room] w fun v w'=>v = .agg (B6 ⟨r.N - 1,k,room,0⟩).toArray∧Ext [] w w':=by
 obtain ⟨w0,rfl⟩:∃ w0,w0=w:=⟨_,rfl⟩
 have H:=Ctx.start w0 []
 refine A0 (fn:=Tryz.f82) Tryz.func82 rfl [.agg (AJ r q).toArray,.int .i64 k,.int .i64 room] rfl (by kernel_rfl) ?_
 refine Af (B2 rfl (AJ r q) (.agg _) rfl rfl H ?_)
 rintro b3 w - H
 refine Bo rfl Es H ?_
 rintro b6 w - H
 refine Ab (Aa (Af (Bq rfl C6 Cp rfl H at1 rfl (Al rfl Ie (Ga r q _ hN) rfl ?_))))
 rintro v w ⟨rfl,hx8⟩
 replace H:=H.call hx8
 refine Ad rfl rfl (Ad rfl rfl (C7 (B6 ⟨r.N - 1,k,room,0⟩) rfl NJ Es (by kernel_rfl) ?_))
 refine BP rfl Ci rfl rfl rfl (by exact DQ _) H at0 rfl ?_
 rintro w H
 refine Ab (Aa (A9 (To rfl rfl rfl EW Ci H at0 rfl ?_)))
 exact ⟨rfl,H.ext⟩
theorem X6 (r:Rnd) (q:RSl) (k:Int) (w:World) (hN : -9223372036854775808<r.N∧r.N≤9223372036854775807):Ret Tryz.prog 83 #[.agg (AJ r q).toArray,.int .i64 k] w fun v w'=>v = .agg (B6 ⟨k,r.N - 1,4503599627370496,0⟩).toArray∧Ext [] w w':=by
 obtain ⟨w0,rfl⟩:∃ w0,w0=w:=⟨_,rfl⟩
 have H:=Ctx.start w0 []
 refine A0 (fn:=Tryz.f83) Tryz.func83 rfl [.agg (AJ r q).toArray,.int .i64 k] rfl (by kernel_rfl) ?_
 refine Af (B2 rfl (AJ r q) (.agg _) rfl rfl H ?_)
 rintro b2 w - H
 refine Bo rfl Es H ?_
 rintro b4 w - H
 refine Ab (Aa (Af (Ad rfl rfl (Bq rfl C6 Cp rfl H at1 rfl (Al rfl Ie (Ga r q _ hN) rfl ?_)))))
 rintro v w ⟨rfl,hx7⟩
 replace H:=H.call hx7
 refine C7 (B6 ⟨k,r.N - 1,4503599627370496,0⟩) rfl NJ Es (by kernel_rfl) ?_
 refine BP rfl Ci rfl rfl rfl (by exact DQ _) H at0 rfl ?_
 rintro w H
 refine Ab (Aa (A9 (To rfl rfl rfl EW Ci H at0 rfl ?_)))
 exact ⟨rfl,H.ext⟩
/-- May an edge be a due's? -/
def EH (h:Int) (e:Ed):Bool:=((((decide (e.f<h) && decide (e.t<h)) && !decide (e.f=e.t)) && decide (1≤e.cap)) && decide (-1000≤e.cost)) && decide (e.cost ≤ -1)
set_option maxRecDepth 20000 in
theorem Zw (r:Rnd) (q:RSl) (e:Ed) (w:World) (hN : -9223372036854775808<r.N∧r.N≤9223372036854775807):Ret Tryz.prog 96 #[.agg (AJ r q).toArray,.agg (B6 e).toArray] w fun v w'=>v = .bool (EH (r.N - 1) e)∧Ext [] w w':=by
 obtain ⟨w0,rfl⟩:∃ w0,w0=w:=⟨_,rfl⟩
 have H:=Ctx.start w0 []
 refine A0 (fn:=Tryz.f96) Tryz.func96 rfl [.agg (AJ r q).toArray,.agg (B6 e).toArray] rfl (by kernel_rfl) ?_
 refine Af (B2 rfl (AJ r q) (.agg _) rfl rfl H ?_)
 rintro b2 w - H
 refine B2 rfl (B6 e) (.agg _) rfl rfl H ?_
 rintro b3 w - H
 refine Ai rfl rfl (Ab (Aa (Af (Bq rfl C6 Cp rfl H at1 rfl (Al rfl Ie (Ga r q _ hN) rfl ?_)))))
 rintro v w ⟨rfl,hx7⟩
 replace H:=H.call hx7
 refine Ae rfl rfl (Ab (Aa (Af (Ct (α:=Unit) 1099511627536 (fun _=>[(4,.bool (EH (r.N - 1) e))]) (fun _ w'=>Ctx w0 [] w' [(b3,Bl 92 (B6 e)),(b2,Bl 33 (AJ r q))]) rfl ?_ ?_))))
 ·refine Ah rfl DL rfl (AM rfl BS rfl H at0 rfl (Ad rfl rfl (AV rfl rfl rfl (Ay rfl rfl (AH 12 rfl ?_ ?_)))))
  ·intro h1
   replace h1:=AE h1
   refine Ah rfl Er rfl (AM rfl BS rfl H at0 rfl (Ad rfl rfl (AV rfl rfl rfl (A3 rfl rfl (.bool _) rfl (Ay rfl rfl (AH 18 rfl ?_ ?_))))))
   ·intro h2
    replace h2:=AE h2
    refine Ah rfl DL rfl (AM rfl BS rfl H at0 rfl (Ah rfl Er rfl (AM rfl BS rfl H at0 rfl (CY rfl rfl rfl (A3 rfl rfl (.bool _) rfl (Ay rfl rfl (AH 25 rfl ?_ ?_)))))))
    ·intro h3
     replace h3:=Dz h3
     refine Ah rfl D4 rfl (AM rfl B9 rfl H at0 rfl (CK rfl rfl rfl (A3 rfl rfl (.bool _) rfl (Ay rfl rfl (AH 30 rfl ?_ ?_)))))
     ·intro h4
      replace h4:=AE h4
      refine Ah rfl EL rfl (AM rfl B9 rfl H at0 rfl (CK rfl rfl rfl (A3 rfl rfl (.bool _) rfl (Ay rfl rfl (AH 35 rfl ?_ ?_)))))
      ·intro h5
       replace h5:=AE h5
       refine Ah rfl EL rfl (AM rfl B9 rfl H at0 rfl (Jz rfl rfl rfl (A3 rfl rfl (.bool _) rfl (Ai rfl rfl (Ab ?_)))))
       exact ⟨rfl,(),rfl,⟨congrArg Value.bool (by unfold EH; rw [Bool.eq_iff_iff]; simp_all; done),trivial⟩,H⟩
      ·intro h6
       replace h6:=AF h6
       refine Ag rfl (Ag rfl (Ag rfl (AA rfl rfl (.bool _) rfl (Ai rfl rfl (Ab ?_)))))
       exact ⟨rfl,(),rfl,⟨congrArg Value.bool (by unfold EH; rw [Bool.eq_iff_iff]; simp_all; omega),trivial⟩,H⟩
     ·intro h7
      replace h7:=AF h7
      refine Ag rfl (Ag rfl (Ag rfl (AA rfl rfl (.bool _) rfl (Ay rfl rfl (Ag rfl (Ag rfl (Ag rfl (AA rfl rfl (.bool _) rfl (Ai rfl rfl ?_)))))))))
      refine Ab ?_
      exact ⟨rfl,(),rfl,⟨congrArg Value.bool (by unfold EH; rw [Bool.eq_iff_iff]; simp_all; omega),trivial⟩,H⟩
    ·intro h8
     replace h8:=D0 h8
     refine Ag rfl (Ag rfl (Ag rfl (AA rfl rfl (.bool _) rfl (Ay rfl rfl (Ag rfl (Ag rfl (Ag rfl (AA rfl rfl (.bool _) rfl (Ay rfl rfl ?_)))))))))
     refine Ag rfl (Ag rfl (Ag rfl (AA rfl rfl (.bool _) rfl (Ai rfl rfl (Ab ?_)))))
     exact ⟨rfl,(),rfl,⟨congrArg Value.bool (by unfold EH; rw [Bool.eq_iff_iff]; simp_all; done),trivial⟩,H⟩
   ·intro h9
    replace h9:=AF h9
    refine Ag rfl (Ag rfl (Ag rfl (Ag rfl (Ag rfl (AA rfl rfl (.bool _) rfl (Ay rfl rfl (Ag rfl (Ag rfl (Ag rfl ?_)))))))))
    refine AA rfl rfl (.bool _) rfl (Ay rfl rfl (Ag rfl (Ag rfl (Ag rfl (AA rfl rfl (.bool _) rfl (Ay rfl rfl (Ag rfl (Ag rfl (Ag rfl ?_)))))))))
    refine AA rfl rfl (.bool _) rfl (Ai rfl rfl (Ab ?_))
    exact ⟨rfl,(),rfl,⟨congrArg Value.bool (by unfold EH; rw [Bool.eq_iff_iff]; simp_all; omega),trivial⟩,H⟩
  ·intro h10
   replace h10:=AF h10
   refine Ag rfl (Ag rfl (Ag rfl (Ag rfl (AA rfl rfl (.bool _) rfl (Ay rfl rfl (Ag rfl (Ag rfl (Ag rfl (Ag rfl ?_)))))))))
   refine Ag rfl (AA rfl rfl (.bool _) rfl (Ay rfl rfl (Ag rfl (Ag rfl (Ag rfl (AA rfl rfl (.bool _) rfl (Ay rfl rfl (Ag rfl (Ag rfl ?_)))))))))
   refine Ag rfl (AA rfl rfl (.bool _) rfl (Ay rfl rfl (Ag rfl (Ag rfl (Ag rfl (AA rfl rfl (.bool _) rfl (Ai rfl rfl (Ab ?_))))))))
   exact ⟨rfl,(),rfl,⟨congrArg Value.bool (by unfold EH; rw [Bool.eq_iff_iff]; simp_all; omega),trivial⟩,H⟩
 rintro - j4 w H
 refine A9 (AC (v:=(.bool _)) rfl rfl rfl ?_)
 exact ⟨rfl,H.ext⟩
abbrev Aad (b:Nat):Value := .func (.func 95) #[] #[ptr b]
theorem Vl (r:Rnd) (q:RSl) (e:Ed) (b:Nat) (w:World) (hb:w.heap[b]? = some (Bl 33 (AJ r q))) (hN : -9223372036854775808<r.N∧r.N≤9223372036854775807):Ret Tryz.prog 95 #[.agg (B6 e).toArray,ptr b] w fun v w'=>v = .bool (!EH (r.N - 1) e)∧Ext [] w w':=by
 obtain ⟨w0,rfl⟩:∃ w0,w0=w:=⟨_,rfl⟩
 have H:=Ctx.start w0 []
 refine A0 (fn:=Tryz.f95) Tryz.func95 rfl [.agg (B6 e).toArray,.pointer (some ⟨b,0,none⟩)] rfl (by kernel_rfl) ?_
 refine Af (B2 rfl (B6 e) (.agg _) rfl rfl H ?_)
 rintro b2 w - H
 refine Ai rfl rfl (Ab (Aa (Af (Cx _ rfl C6 Cp rfl rfl ((C8 (b:=b) (t:=33) (l:=AJ r q) (H.ext.to hb (by simp)) 0 (AJ r q) rfl)) ?_))))
 refine Bq rfl EW Ci rfl H at0 rfl (Al rfl ca_96 (Zw r q e _ hN) rfl ?_)
 rintro v w ⟨rfl,hx6⟩
 replace H:=H.call hx6
 refine Bv rfl rfl (Ai rfl rfl (Ab (Aa (A9 (AC (v:=(.bool _)) rfl rfl rfl ?_)))))
 exact ⟨rfl,H.ext⟩
set_option maxRecDepth 20000 in
theorem Zx (r:Rnd) (q:RSl) (b:Nat) (a:Option Addr) (n c:Nat) (es:List Ed) (w:World) (hb:w.heap[b]? = some (Bl 33 (AJ r q))) (hN : -9223372036854775808<r.N∧r.N≤9223372036854775807) (R:Rd w a 4 B6 es) (hn:es.length=n) (hn2:n≤1000000) :
  Ret Tryz.prog 155 #[.slice a n c,Aad b] w fun v w'=>∃ i:Int,v = .int .i64 i∧(0≤i↔es.all (EH (r.N - 1))=false)∧Ext [] w w':=by
 subst hn
 obtain ⟨w0,rfl⟩:∃ w0,w0=w:=⟨_,rfl⟩
 have H:=Ctx.start w0 []
 refine A0 (fn:=Tryz.f155) Tryz.func155 rfl [.slice a es.length c,.func (.func 95) #[] #[.pointer (some ⟨b,0,none⟩)]] rfl (by kernel_rfl) ?_
 refine Af (Ae rfl rfl (Ab (Aa (Aq (Af (Ak rfl rfl (Be rfl C9 rfl (Ad rfl rfl (Ab (Aa (Av ?_)))))))))))
 refine Bm 524080 (α:=Nat) (fun i=>[(8,.int .i64 (i:Int))]) (fun i w'=>i≤es.length∧Ctx w0 [] w' []∧∀ (j:Nat) (e:Ed),j<i→es[j]? = some e→EH (r.N - 1) e=true) (fun i=>es.length - i) 0 rfl ?_ ?_ ?_
 ·exact ⟨rfl,trivial⟩
 ·exact ⟨Nat.zero_le _,H,fun j e h=>absurd h (Nat.not_lt_zero _)⟩
 ·clear H
  rintro i j w ⟨hi,H,hbf⟩
  refine Af (AV rfl rfl rfl (Ab (Aa (Aq (Ax _ rfl ?_ ?_)))))
  ·intro h1
   replace h1:=AE h1
   obtain ⟨e,he⟩:=A4 (l:=es) (i:=i) (by omega)
   have R1:=R.ext0 H.ext
   refine Aw (Aa (Aq (Av (Af (Ad rfl rfl (Ae rfl rfl (Ab (Aa (Af (BO rfl (.func _ _ _) rfl ?_))))))))))
   refine Ak rfl rfl (Ad rfl rfl (Ba R1 rfl C9 Ci rfl rfl (by omega) (by omega) (by rfl) ?_))
   refine Cx _ rfl EW Ci rfl rfl ((R1.row he rfl)) ?_
   refine Cb rfl rfl ca_95 (Vl r q e b _ (H.ext.to hb (by simp)) hN) rfl ?_
   rintro v w ⟨rfl,hx16⟩
   replace H:=H.call hx16
   refine Ab (Aa (Ax _ rfl ?_ ?_))
   ·intro h2
    refine Af (Ad rfl rfl (Ae rfl rfl (Ab (Aa (A9 (A7 (Am (Am (A7 (Am (AC (v:=(.int _ _)) rfl rfl rfl ?_)))))))))))
    refine ⟨i,rfl,⟨fun _=>?_,fun _=>by omega⟩,H.ext⟩
    rw [← Bool.not_eq_true,List.all_eq_true]
    intro h
    have h9:=h e (List.mem_of_getElem? he)
    simp_all
   ·intro h2
    refine Aw (A2 (Aa (Ap (Ao rfl rfl rfl (by omega) (by omega) ?_))))
    refine Ad rfl rfl (Ab (Aa ?_))
    refine ⟨i+1,rfl,⟨rfl,trivial⟩,⟨by omega,H,fun j' e' hj he'=>?_⟩,by omega⟩
    rcases Nat.lt_or_ge j' i with h3 | h3
    ·exact hbf j' e' h3 he'
    ·obtain rfl:j'=i:=by omega
     rw [he] at he'; cases he'
     simpa using h2
  ·intro h1
   replace h1:=AF h1
   obtain rfl:i=es.length:=by omega
   refine Bh (Aj (Aj (AB (Aa (Af (Ae rfl rfl (Ab (Aa (A9 (AC (v:=(.int _ _)) rfl rfl rfl ?_))))))))))
   refine ⟨-1,rfl,⟨fun h=>by omega,fun h=>?_⟩,H.ext⟩
   exfalso
   have:es.all (EH (r.N - 1))=true:=List.all_eq_true.2 fun e he=>by
    obtain ⟨k,hk⟩:=List.mem_iff_getElem?.1 he
    exact hbf k e (Cr hk) hk
   rw [this] at h; cases h
theorem X7 (r:Rnd) (q:RSl) (b:Nat) (a:Option Addr) (n c:Nat) (es:List Ed) (w:World) (hb:w.heap[b]? = some (Bl 33 (AJ r q))) (hN : -9223372036854775808<r.N∧r.N≤9223372036854775807) (R:Rd w a 4 B6 es) (hn:es.length=n) (hn2:n≤1000000) :
  Ret Tryz.prog 94 #[.slice a n c,Aad b] w fun v w'=>v = .bool (!es.all (EH (r.N - 1)))∧Ext [] w w':=by
 obtain ⟨w0,rfl⟩:∃ w0,w0=w:=⟨_,rfl⟩
 have H:=Ctx.start w0 []
 refine A0 (fn:=Tryz.f94) Tryz.func94 rfl [.slice a n c,.func (.func 95) #[] #[.pointer (some ⟨b,0,none⟩)]] rfl (by kernel_rfl) ?_
 refine Af (Ai rfl rfl (Ab (Aa (Af (Ak rfl rfl (BO rfl (.func (.func 95) #[] #[.pointer (some ⟨b,0,none⟩)]) rfl ?_))))))
 refine Al rfl Abj (Zx r q b a n c es _ (H.ext.to hb (by simp)) hN (R.ext0 H.ext) hn hn2) rfl ?_
 rintro v w ⟨i,rfl,hi,hx7⟩
 replace H:=H.call hx7
 refine CK rfl rfl rfl (Ai rfl rfl (Ab (Aa (A9 (AC (v:=(.bool _)) rfl rfl rfl ?_)))))
 refine ⟨congrArg Value.bool ?_,H.ext⟩
 rw [Bool.eq_iff_iff,decide_eq_true_eq,Bool.not_eq_true',← hi]
def IB (h:Int) (rest:List Ed) (b:Nat):Bool:=decide (rest.getD (2*b) e0=⟨h,b,(rest.getD (2*b) e0).cap,0⟩) && decide (rest.getD (2*b+1) e0=⟨b,h,4503599627370496,0⟩)
def Ha (r:Rnd):Bool:=((((Ex r.N r.es r.fl r.pot && decide (0≤r.day)) && decide (r.ids.length≤64)) && decide r.ids.Nodup) && decide (r.N - 1≤16)) && decide (r.ids.length≤r.es.length)
def HW (r:Rnd):Bool:=if r.cmp=true then decide ((r.es.drop r.ids.length).length=0) else decide (((r.es.drop r.ids.length).length:Int)=2*(r.N - 1)) && (List.range (r.N - 1).toNat).all (IB (r.N - 1) (r.es.drop r.ids.length))
/-- Is a round right? -/
def B7 (r:Rnd):Bool:=Ha r && ((r.es.take r.ids.length).all (EH (r.N - 1)) && HW r)
theorem QR {r:Rnd} (h:Ha r=true):Ex r.N r.es r.fl r.pot=true∧0≤r.day∧r.ids.length≤64∧r.ids.Nodup∧r.N - 1≤16∧r.ids.length≤r.es.length:=by
 unfold Ha at h
 simp only [Bool.and_eq_true,decide_eq_true_eq] at h
 exact ⟨h.1.1.1.1.1,h.1.1.1.1.2,h.1.1.1.2,h.1.1.2,h.1.2,h.2⟩
theorem LH {N:Int} {es:List Ed} {fl pot:List Int} (h:Ex N es fl pot=true):1≤N∧N≤40∧es.length≤200∧fl.length=es.length∧(pot.length:Int)=N:=by
 obtain ⟨h1,h2,-⟩:=F7.1 h
 have h3:=BA (Fq h1).1
 have h4:=BX h3.2.1
 exact ⟨h4.1,h4.2.1,h4.2.2.1,h3.1,(KH h2).1⟩
set_option maxRecDepth 20000 in
set_option maxHeartbeats 8000000 in
theorem Fc (r:Rnd) (q:RSl) (w:World) (RA:RAt w r q) (hEc:r.es.length≤q.cE) (hr:RBnd r):Ret Tryz.prog 36 #[.agg (AJ r q).toArray] w fun v w'=>v = .bool (B7 r)∧Ext [] w w':=by
 obtain ⟨w0,rfl⟩:∃ w0,w0=w:=⟨_,rfl⟩
 have H:=Ctx.start w0 []
 have hNb:=hr.N
 unfold I64 at hNb
 have h1e:=hr.es
 have h1i:=hr.ids
 obtain ⟨ck,hck⟩:∃ ck,ck=Ex r.N r.es r.fl r.pot:=⟨_,rfl⟩
 have hN:ck=true→1≤r.N∧r.N≤40:=fun h=>⟨(LH (hck.symm.trans h)).1,(LH (hck.symm.trans h)).2.1⟩
 obtain ⟨nd,hnd⟩:∃ nd,nd=decide r.ids.Nodup:=⟨_,rfl⟩
 refine A0 (fn:=Tryz.f36) Tryz.func36 rfl [.agg (AJ r q).toArray] rfl (by kernel_rfl) ?_
 have hhd:Ha r=(((((ck && decide (0≤r.day)) && decide (r.ids.length≤64)) && nd) && decide (r.N - 1≤16)) && decide (r.ids.length≤r.es.length)):=by unfold Ha; rw [← hck,← hnd]
 refine Af (B2 rfl (AJ r q) (.agg _) rfl rfl H ?_)
 rintro b1 w - H
 refine Ai rfl rfl (Ab (Aa (Af (Ah rfl EK rfl (AM rfl Fy rfl H at0 rfl (Be rfl Bd rfl (Ae rfl rfl (Ab (Aa (Aq (Af (Ct (α:=Unit) 17592186043392 (fun _=>[(43,.bool (!Ha r))]) (fun _ w'=>Ctx w0 [] w' [(b1,Bl 33 (AJ r q))]) rfl ?_ ?_))))))))))))
 ·refine Ah rfl Fo rfl (Cx _ rfl CX CJ rfl rfl ((C8 (b:=b1) (t:=33) (l:=AJ r q) (H.get at0) 4 [.int .i64 r.N,.slice q.aE r.es.length q.cE] rfl)) ?_)
  refine Ah rfl LB rfl (Cx _ rfl T1 NK rfl rfl ((C8 (b:=b1) (t:=33) (l:=AJ r q) (H.get at0) 6 [.slice q.aF r.fl.length q.cF,.slice q.aP r.pot.length q.cP] rfl)) ?_)
  refine Al rfl ca_66 (WQ r.N q.aE q.aF q.aP _ q.cE _ q.cF _ q.cP r.es r.fl r.pot _ (RA.E.ext0 H.ext) rfl hr.N (RA.F.ext0 H.ext) rfl (by have:=hr.fl; omega) (RA.P.ext0 H.ext) rfl (by have:=hr.pot; omega)) rfl ?_
  rintro v w ⟨rfl,hx14⟩
  rw [← hck]
  replace H:=H.call hx14
  refine Bv rfl rfl (Ay rfl rfl (AH 16 rfl ?_ ?_))
  ·intro h1
   replace h1:=B0 h1
   refine Ag rfl (Ag rfl (Ag rfl (A3 rfl rfl (.bool _) rfl (Ay rfl rfl (Ag rfl (Ag rfl (A3 rfl rfl (.bool _) rfl (Ay rfl rfl (Ag rfl ?_)))))))))
   refine Ag rfl (Ag rfl (Ag rfl (A3 rfl rfl (.bool _) rfl (Ay rfl rfl (Ag rfl (Ag rfl (Ag rfl (A3 rfl rfl (.bool _) rfl (Ay rfl rfl ?_)))))))))
   refine Ag rfl (Ag rfl (Ag rfl (Ag rfl (Ag rfl (Ag rfl (A3 rfl rfl (.bool _) rfl (Ab ?_)))))))
   exact ⟨rfl,(),rfl,⟨congrArg Value.bool (by rw [hhd,Bool.eq_iff_iff]; simp_all; done),trivial⟩,H⟩
  ·intro h2
   replace h2:=B1 h2
   refine Ah rfl YF rfl (AM rfl B9 rfl H at0 rfl (AV rfl rfl rfl (AA rfl rfl (.bool _) rfl (Ay rfl rfl (AH 21 rfl ?_ ?_)))))
   ·intro h3
    replace h3:=AE h3
    refine Ag rfl (Ag rfl (A3 rfl rfl (.bool _) rfl (Ay rfl rfl (Ag rfl (Ag rfl (Ag rfl (Ag rfl (A3 rfl rfl (.bool _) rfl (Ay rfl rfl ?_)))))))))
    refine Ag rfl (Ag rfl (Ag rfl (A3 rfl rfl (.bool _) rfl (Ay rfl rfl (Ag rfl (Ag rfl (Ag rfl (Ag rfl (Ag rfl ?_)))))))))
    refine Ag rfl (A3 rfl rfl (.bool _) rfl (Ab ?_))
    exact ⟨rfl,(),rfl,⟨congrArg Value.bool (by rw [hhd,Bool.eq_iff_iff]; simp_all; done),trivial⟩,H⟩
   ·intro h4
    replace h4:=AF h4
    refine Ad rfl rfl (C4 rfl rfl rfl (AA rfl rfl (.bool _) rfl (Ay rfl rfl (AH 25 rfl ?_ ?_))))
    ·intro h5
     replace h5:=AE h5
     refine Ag rfl (Ag rfl (Ag rfl (Ag rfl (A3 rfl rfl (.bool _) rfl (Ay rfl rfl (Ag rfl (Ag rfl (Ag rfl (A3 rfl rfl (.bool _) rfl ?_)))))))))
     refine Ay rfl rfl (Ag rfl (Ag rfl (Ag rfl (Ag rfl (Ag rfl (Ag rfl (A3 rfl rfl (.bool _) rfl (Ab ?_))))))))
     exact ⟨rfl,(),rfl,⟨congrArg Value.bool (by rw [hhd,Bool.eq_iff_iff]; simp_all; omega),trivial⟩,H⟩
    ·intro h6
     replace h6:=AF h6
     refine Ah rfl EK rfl (AM rfl Fy rfl H at0 rfl (Al rfl ca_93 (Zv q.aI _ q.cI r.ids _ (RA.I.ext0 H.ext) rfl hr.ids) rfl ?_))
     rintro v w ⟨rfl,hx28⟩
     rw [← hnd]
     replace H:=H.call hx28
     refine Bv rfl rfl (AA rfl rfl (.bool _) rfl (Ay rfl rfl (AH 31 rfl ?_ ?_)))
     ·intro h7
      replace h7:=B0 h7
      refine Ag rfl (Ag rfl (Ag rfl (A3 rfl rfl (.bool _) rfl (Ay rfl rfl (Ag rfl (Ag rfl (Ag rfl (Ag rfl (Ag rfl ?_)))))))))
      refine Ag rfl (A3 rfl rfl (.bool _) rfl (Ab ?_))
      exact ⟨rfl,(),rfl,⟨congrArg Value.bool (by rw [hhd,Bool.eq_iff_iff]; simp_all; done),trivial⟩,H⟩
     ·intro h8
      replace h8:=B1 h8
      refine Bq rfl C6 Cp rfl H at0 rfl (Al rfl Ie (Ga r q _ (by have:=hN (by simp_all); omega)) rfl ?_)
      rintro v w ⟨rfl,hx33⟩
      replace H:=H.call hx33
      refine C4 rfl rfl rfl (AA rfl rfl (.bool _) rfl (Ay rfl rfl (AH 36 rfl ?_ ?_)))
      ·intro h9
       replace h9:=AE h9
       refine Ag rfl (Ag rfl (Ag rfl (Ag rfl (Ag rfl (Ag rfl (A3 rfl rfl (.bool _) rfl (Ab ?_)))))))
       exact ⟨rfl,(),rfl,⟨congrArg Value.bool (by rw [hhd,Bool.eq_iff_iff]; simp_all; done),trivial⟩,H⟩
      ·intro h10
       replace h10:=AF h10
       refine Ah rfl Fo rfl (Ah rfl CR rfl (AM rfl Ec rfl H at0 rfl (Be rfl C9 rfl (Ad rfl rfl (AV rfl rfl rfl (AA rfl rfl (.bool _) rfl (Ab ?_)))))))
       exact ⟨rfl,(),rfl,⟨congrArg Value.bool (by rw [hhd,Bool.eq_iff_iff]; simp_all; omega),trivial⟩,H⟩
 rintro - j43 w H
 refine Ax _ rfl ?_ ?_
 ·intro h1
  replace h1:=B0 h1
  refine Af (Ai rfl rfl (Ab (Aa (A9 (Am (AC (v:=(.bool _)) rfl rfl rfl ?_))))))
  exact ⟨congrArg Value.bool (by unfold B7; rw [h1]; rfl),H.ext⟩
 ·intro h1
  replace h1:=B1 h1
  obtain ⟨g1,g2,g3,g4,g5,g6⟩:=QR h1
  have hNN:=LH g1
  have RT:Rd w q.aE 4 B6 (r.es.take r.ids.length):=(RA.E.ext0 H.ext).take _
  have hRB:B7 r=((r.es.take r.ids.length).all (EH (r.N - 1)) && HW r):=by unfold B7; rw [h1]; rfl
  rw [hRB]
  obtain ⟨hh,hhN⟩:∃ hh:Nat,r.N - 1=hh:=⟨(r.N - 1).toNat,by omega⟩
  obtain ⟨rest,hrest⟩:∃ rest,rest=r.es.drop r.ids.length:=⟨_,rfl⟩
  have hrl:rest.length=r.es.length - r.ids.length:=by rw [hrest,List.length_drop]
  refine Aw (Aa (Af (Ah rfl Fo rfl (Ah rfl CR rfl (AM rfl Ec rfl H at0 rfl (Ad rfl rfl (FG rfl C9 Ci rfl rfl (by omega) (by omega) ?_)))))))
  refine A6 rfl rfl (Ab (Aa (Aq (Af (Ah rfl Fo rfl (Ah rfl CR rfl (AM rfl Ec rfl H at0 rfl (Ad rfl rfl (FH rfl C9 Ci rfl rfl (by omega) (by omega) ?_)))))))))
  refine Ch rfl [.pointer _] rfl (Al rfl ca_94 (X7 r q b1 q.aE _ q.cE (r.es.take r.ids.length) _ (H.get at0) (by omega) ((RA.E.ext0 H.ext).take _) (by rw [List.length_take]; omega) (by omega)) rfl ?_)
  rintro v w ⟨rfl,hx55⟩
  replace H:=H.call hx55
  refine Ab (Aa (Ax _ rfl ?_ ?_))
  ·intro h2
   refine Af (Ai rfl rfl (Ab (Aa (A9 (Am (AC (v:=(.bool _)) rfl rfl rfl ?_))))))
   exact ⟨congrArg Value.bool (by rw [Bool.not_eq_true'] at h2; rw [h2]; rfl),H.ext⟩
  ·intro h2
   have h2':(r.es.take r.ids.length).all (EH (r.N - 1))=true:=by simpa using h2
   rw [h2',Bool.true_and]
   unfold HW
   rw [← hrest]
   refine Aw (Aa (Aq (Af (Ah rfl OZ rfl (AM rfl Hh rfl H at0 rfl (Ab (Aa (Ax _ rfl ?_ ?_))))))))
   ·intro h3
    refine Af (Ak rfl rfl (Be rfl C9 rfl (Cg rfl rfl rfl (Ai rfl rfl (Ab (Aa (A9 (Am (AC (v:=(.bool _)) rfl rfl rfl ?_)))))))))
    exact ⟨congrArg Value.bool (by rw [if_pos h3,Bool.eq_iff_iff,decide_eq_true_eq,decide_eq_true_eq]; omega),H.ext⟩
   ·intro h3
    rw [if_neg (by simp [h3])]
    refine Aw (Aa (Aq (Af (Ak rfl rfl (Be rfl C9 rfl (Bq rfl C6 Cp rfl H at0 rfl (Al rfl Ie (Ga r q _ (by omega)) rfl ?_)))))))
    rintro v w ⟨rfl,hx64⟩
    replace H:=H.call hx64
    refine C5 rfl rfl rfl (by omega) (by omega) ?_
    refine CY rfl rfl rfl (Ab (Aa (Ax _ rfl ?_ ?_)))
    ·intro h4
     replace h4:=Dz h4
     refine Af (Ai rfl rfl (Ab (Aa (A9 (Am (AC (v:=(.bool _)) rfl rfl rfl ?_))))))
     exact ⟨congrArg Value.bool (by rw [decide_eq_false (by omega)]; rfl),H.ext⟩
    ·intro h4
     replace h4:=D0 h4
     rw [decide_eq_true (show (rest.length:Int)=2*(r.N - 1) by omega),Bool.true_and,hhN,Int.toNat_natCast]
     have RR:Rd w0 (JM q.aE q.cE r.ids.length 4) 4 B6 rest:=by rw [hrest]; exact RA.E.cut _ _ hEc
     refine Aw (Aa (Aq (Af (Bq rfl C6 Cp rfl H at0 rfl (Al rfl Ie (Ga r q _ (by omega)) rfl ?_)))))
     rintro v w ⟨rfl,hx68⟩
     replace H:=H.call hx68
     refine Ad rfl rfl (Ab (Aa (Av (Bm 158456324438232864828382249060 (α:=Nat) (fun i=>[(69,.int .i64 (i:Int))]) (fun i w'=>(i≤hh∧∀ b,b<i→IB (hh:Int) rest b=true)∧Ctx w0 [] w' [(b1,Bl 33 (AJ r q))]) (fun i=>hh - i) 0 rfl ?_ ?_ ?_))))
     ·exact ⟨rfl,trivial⟩
     ·exact ⟨⟨Nat.zero_le _,fun b h=>absurd h (Nat.not_lt_zero _)⟩,H⟩
     ·clear H
      rintro i j w ⟨⟨hi,hbf⟩,H⟩
      refine Af (AV rfl rfl rfl (Ab (Aa (Aq (Ax _ rfl ?_ ?_)))))
      ·intro h5
       replace h5:=AE h5
       obtain ⟨x,hxe⟩:=A4 (l:=rest) (i:=2*i) (by omega)
       obtain ⟨y,hye⟩:=A4 (l:=rest) (i:=2*i+1) (by omega)
       have hat:IB (hh:Int) rest i=(decide (x=⟨hh,i,x.cap,0⟩) && decide (y=⟨i,hh,4503599627370496,0⟩)):=by unfold IB; rw [AU hxe,AU hye]
       have hidx:(2*(i:Int)).toNat=2*i:=by omega
       have hidx2:(2*(i:Int)+1).toNat=2*i+1:=by omega
       have hno:IB (hh:Int) rest i=false→(List.range hh).all (IB (hh:Int) rest)=false:=fun h=>by
        rw [← Bool.not_eq_true,List.all_eq_true]
        intro h9
        have:=h9 i (List.mem_range.2 (by omega))
        rw [h] at this; cases this
       refine Aw (Aa (Aq (Av (Af (Ad rfl rfl (Ae rfl rfl (Ab (Aa (Af (Ak rfl rfl (Ad rfl rfl ?_)))))))))))
       refine C5 rfl rfl rfl (by omega) (by omega) ?_
       refine Ba RR rfl C9 Ci rfl rfl (by omega) (by omega) (by omega) ?_
       rw [hidx]
       refine Cx _ rfl EW Ci rfl rfl (((RR.ext0 H.ext).row hxe rfl)) ?_
       refine Bo rfl Es H ?_
       rintro b6 w - H
       refine BP rfl Ci rfl rfl rfl (by exact DQ _) H at0 rfl ?_
       rintro w H
       refine Ab (Aa ?_)
       have HG:=H
       have hb6:=H.get at0
       have hb1:=H.get at1
       obtain ⟨w3,rfl⟩:∃ z,z=w:=⟨_,rfl⟩
       have H:=Ctx.start w3 []
       refine CH [([0,1,2,3,4],5),([6,7,8,9,10,11,12,13,14,15],16),([17],18)] (fun z=>Ext [] w3 z) [] Bz (by kernel_rfl) (Ext.drew [] w3) ?_
       refine AO rfl rfl ?_
       refine Fx _ rfl EW Ci rfl rfl (fun _ hx=>(C8 (b:=b6) (t:=92) (l:=B6 x) (hx.to hb6 (by simp)) 0 (B6 x) rfl)) ?_
       refine Fx _ rfl C6 Cp rfl rfl (fun _ hx=>(C8 (b:=b1) (t:=33) (l:=AJ r q) (hx.to hb1 (by simp)) 0 (AJ r q) rfl)) ?_
       refine AN rfl rfl (AL rfl D4 rfl (BQ rfl B9 rfl (fun _ hx=>(by rw [An (hx.to hb6 (by simp))]; rfl)) ?_))
       refine Bx ?_
       replace H:=H.drew
       refine Al rfl ZP (Aac r q i x.cap _ (by omega)) rfl ?_
       rintro v w ⟨rfl,hx82⟩
       replace H:=H.call hx82
       rw [hhN]
       refine Ab (C2 (H.ext) (AO rfl rfl ?_))
       refine Aab (ks:=[true,true,true,true]) (xs:=B6 x) (ys:=B6 ⟨hh,i,x.cap,0⟩) (decide (x=⟨hh,i,x.cap,0⟩)) rfl (by kernel_rfl) rfl rfl ⟨rfl,rfl,rfl,rfl,trivial⟩ (QI _ _) ?_
       refine Tq rfl rfl (PV 84 rfl ?_ ?_)
       ·intro h6
        refine E8 rfl (E8 rfl (E8 rfl (E8 rfl (E8 rfl (E8 rfl (E8 rfl (E8 rfl (Bx (Ag rfl ?_)))))))))
        refine Ab (C2 (H.ext) (AO rfl rfl ?_))
        refine E8 rfl (Bx (A3 rfl rfl (.bool _) rfl (Ab (C2 (H.ext) (BL (CI rfl (Af (Ai rfl rfl (Ab (Aa (A9 (A7 (Am (Am (A7 (Am (AC (v:=(.bool _)) rfl rfl rfl ?_)))))))))))))))))
        have h6':¬ x=⟨hh,i,x.cap,0⟩:=by simpa using h6
        exact ⟨congrArg Value.bool (hno (by rw [hat,decide_eq_false h6']; rfl)).symm,HG.ext.trans H.ext⟩
       ·intro h6
        refine Bj rfl rfl (AN rfl rfl (N8 rfl rfl rfl (by omega) (by omega) ?_))
        refine Dy rfl rfl rfl (by omega) (by omega) ?_
        refine CE RR rfl C9 Ci rfl rfl (by omega) (by omega) (by omega) ?_
        rw [hidx2]
        refine Fx _ rfl EW Ci rfl rfl (fun _ hx=>((RR.ext0 (HG.ext.trans hx)).row hye rfl)) ?_
        refine Fx _ rfl C6 Cp rfl rfl (fun _ hx=>(C8 (b:=b1) (t:=33) (l:=AJ r q) (hx.to hb1 (by simp)) 0 (AJ r q) rfl)) ?_
        refine AN rfl rfl (Bx (Al rfl ZQ (X6 r q i _ (by omega)) rfl ?_))
        rintro v w ⟨rfl,hx93⟩
        replace H:=H.call hx93
        rw [hhN]
        refine Ab (C2 (H.ext) (AO rfl rfl ?_))
        refine Aab (ks:=[true,true,true,true]) (xs:=B6 y) (ys:=B6 ⟨i,hh,4503599627370496,0⟩) (decide (y=⟨i,hh,4503599627370496,0⟩)) rfl (by kernel_rfl) rfl rfl ⟨rfl,rfl,rfl,rfl,trivial⟩ (QI _ _) ?_
        refine Bx (AA rfl rfl (.bool _) rfl (Ab (C2 (H.ext) (BL (Ax _ rfl ?_ ?_)))))
        ·intro h7
         refine Af (Ai rfl rfl (Ab (Aa (A9 (A7 (Am (Am (A7 (Am (AC (v:=(.bool _)) rfl rfl rfl ?_))))))))))
         have h7':¬ y=⟨i,hh,4503599627370496,0⟩:=by simpa using h7
         exact ⟨congrArg Value.bool (hno (by rw [hat,decide_eq_false h7',Bool.and_false])).symm,HG.ext.trans H.ext⟩
        ·intro h7
         refine Aw (A2 (Aa (Ap (Ao rfl rfl rfl (by omega) (by omega) ?_))))
         refine Ad rfl rfl (Ab (Aa ?_))
         refine ⟨i+1,rfl,⟨rfl,trivial⟩,⟨⟨by omega,fun b hb=>?_⟩,(HG.call H.ext).tail⟩,by omega⟩
         rcases Nat.lt_or_ge b i with h8 | h8
         ·exact hbf b h8
         ·obtain rfl:b=i:=by omega
          have h6':x=⟨hh,b,x.cap,0⟩:=by simpa using h6
          have h7':y=⟨b,hh,4503599627370496,0⟩:=by simpa using h7
          rw [hat,decide_eq_true h6',decide_eq_true h7']; rfl
      ·intro h5
       replace h5:=AF h5
       obtain rfl:i=hh:=by omega
       refine Bh (Aj (Aj (AB (Aa (Af (Ai rfl rfl (Ab (Aa (A9 (AC (v:=(.bool _)) rfl rfl rfl ?_))))))))))
       exact ⟨congrArg Value.bool (List.all_eq_true.2 fun b hb=>hbf b (List.mem_range.1 hb)).symm,H.ext⟩
end Go.Proofs.YtapphbmlkdhnmaaGreat

/- Whether a round is right: the walk of the reference's. -/
namespace Go.Proofs.YtapphbmlkdhnmaaGreat
open Go.GV
attribute [local irreducible] A1 W Wq Wt

theorem Zy {x:Ed} {f t c:Int}:x=⟨f,t,x.cap,c⟩↔(x.f=f∧x.t=t)∧x.cost=c:=by
 obtain ⟨a,b,c',d⟩:=x
 simp [and_assoc]
theorem MP {l:List Int}:l.Nodup↔∀ (k i:Nat) (x y:Int),k<i→l[k]? = some x→l[i]? = some y→x≠y:=by
 rw [List.Nodup,List.pairwise_iff_getElem]
 constructor
 ·intro h k i x y hki hx hy
  obtain ⟨h1,rfl⟩:=List.getElem?_eq_some_iff.1 hx
  obtain ⟨h2,rfl⟩:=List.getElem?_eq_some_iff.1 hy
  exact h k i h1 h2 hki
 ·intro h i j hi hj hij
  exact h i j _ _ hij (List.getElem?_eq_getElem hi) (List.getElem?_eq_getElem hj)
/-- The same, as far as one has gone. -/
def rHead (r:Rnd) (z:Int):Bool:=((((Ex r.N r.es r.fl r.pot && decide (0≤r.day)) && decide (r.ids.length≤64)) && decide (0≤z)) && decide (z≤16)) && decide (r.ids.length≤r.es.length)
end Go.Proofs.YtapphbmlkdhnmaaGreat
