/- Part 11 of the proof. -/
import Derived.Test.YtapphbmlkdhnmaaGreatPart2
import Derived.Test.YtapphbmlkdhnmaaGreatPart10
import Derived.Test.YtapphbmlkdhnmaaGreatPart3
import Derived.Test.YtapphbmlkdhnmaaGreatPart7
/- A round's net, built: the walk. -/
namespace Go.Proofs.YtapphbmlkdhnmaaGreat
open Go.GV
attribute [local irreducible] AL W Wq Wt

/-- Three results, the first in a cell, behind marks. -/
theorem QX {P:Program} {e:Env} {w:World} {fn:Func} {R:Value→World→Prop} {a s2 s3:Tmp} {t:TypeId} {p:Addr} {v2 v3:Value} (hr:fn.results=#[.cell a t,.tmp s2,.tmp s3]) (ha:e.g a = .pointer (some p)) (h2:e.g s2=v2) (h3:e.g s3=v3) (h:Marks e.ds w fun w'=>∃ v,(loadVar t p).run P w' = .ok v w'∧R (.tuple #[v,v2,v3]) w'):Qc P fn R .ret e w :=
 Marks.mono (fun w ⟨v,hv,h⟩ tmps ht=>by
  have h1:=(ht a).trans ha
  have g2:=(ht s2).trans h2
  have g3:=(ht s3).trans h3
  rw [Array.getD_eq_getD_getElem?] at h1 g2 g3
  exact ⟨.tuple #[v,v2,v3],by simp [results,hr,h1,g2,g3,asAddr,hv],h⟩) h
/-- What a round's net is. -/
def RoundRes (w:World) (rs:List Int) (ds:List Du) (net:Bool) (v:Value) (w':World):Prop :=
 Ext [] w w'∧((CD rs ds=false∧v = .tuple #[CS 0 none 0 0,.slice none 0 0,.int .i64 1]) ∨
  (CD rs ds=true∧∃ aE nE cE vI,v = .tuple #[CS ((rs.length+1:Nat):Int) aE nE cE,vI,.int .i64 0]∧Sl w w' (.slice aE nE cE) 4 Cw (BF rs (opn ds) net)∧Sl w w' vI 1 U1 ((opn ds).map Du.id)))
/-- What the rounds leave. -/
def rndJ (ws:World) (b6:Nat) (N:Int) (es:List Ed) (i:Nat) (M:Mt) (w:World):Prop :=
 ∃ a c full,(M=fun y=>y∈((b6,Bl 28 [.int .i64 N,.slice a i c])::ent a 92 full).map (·.1))∧Ctx ws [b6] w ((b6,Bl 28 [.int .i64 N,.slice a i c])::ent a 92 full) ∧
  OS a i c 4 full ((es.take i).flatMap Cw)∧∀ y∈((b6,Bl 28 [.int .i64 N,.slice a i c])::ent a 92 full).map (·.1),y≠ws.heap.size∧y≠ws.heap.size+1
set_option maxRecDepth 20000 in
set_option maxHeartbeats 4000000 in
theorem GA (a b:Option Addr) (n c m e:Nat) (rs:List Int) (ds:List Du) (net:Bool) (w:World) (R:Rd w a 1 I1 rs) (hn:rs.length=n) (hn2:n≤1000000) (Rd':Rd w b 7 Cf ds) (hm:ds.length=m) (hm2:m≤1000000) :
  Ret Tryz.prog 58 #[.slice a n c,.slice b m e,.bool net] w (RoundRes w rs ds net):=by
 subst hn hm
 obtain ⟨w0,rfl⟩:∃ w0,w0=w:=⟨_,rfl⟩
 have H:=Ctx.start w0 []
 obtain ⟨bb,hbb⟩:∃ bb,bb=CD rs ds:=⟨_,rfl⟩
 obtain ⟨os,hos⟩:∃ os,os=opn ds:=⟨_,rfl⟩
 have hol:os.length≤ds.length:=by rw [hos]; exact G4 ds
 refine G5 (fn:=Tryz.f58) Tryz.func58 rfl [.slice a rs.length c,.slice b ds.length e,.bool net] rfl (by kernel_rfl) ?_
 refine Af (Bj rfl FO H ?_)
 rintro b6 w - H
 refine Az rfl rfl (Ae rfl rfl (Ab (Aa (An (Af (Aj rfl rfl (Aj rfl rfl (Am rfl Z3 (US a b _ c _ e rs ds _ (R.ext0 H.ext) rfl hn2 (Rd'.ext0 H.ext) rfl hm2) rfl ?_))))))))
 rintro v w ⟨rfl,hx14⟩
 replace H:=H.call hx14
 rw [← hbb]
 refine B1 rfl rfl (Ab (Aa (Aq _ rfl ?_ ?_)))
 ·intro h1
  replace h1:=Bv h1
  refine Af (B6 rfl Cm BQ rfl H at0 rfl (B5 rfl BQ rfl rfl rfl (by simp [Bm]) H at0 rfl ?_))
  rintro w H
  refine Az rfl rfl (Ae rfl rfl (Ab (Aa (A8 (Al (QX rfl rfl rfl rfl ?_))))))
  exact ⟨_,FQ Cm BQ rfl (fun j v hv=>by rw [Ay (H.get at0),Nat.zero_add]; exact hv),H.ext,.inl ⟨by rw [← hbb]; exact h1,rfl⟩⟩
 ·intro h1
  replace h1:=Bw h1
  refine Ao (Aa (Af (Aj rfl rfl (AV rfl AO rfl (Ap rfl rfl rfl (by omega) (by omega) ?_)))))
  refine Ah rfl D5 rfl (Cy (.int _ _) rfl Fs rfl rfl rfl H at0 (by decide) ?_)
  rintro w H
  refine Ab (Aa (Af (Aj rfl rfl (Am rfl Z4 (Y5 b _ e ds _ (Rd'.ext0 H.ext) rfl hm2) rfl ?_))))
  rintro v w F
  rw [← hos] at F
  obtain ⟨a4,n4,c4,f4,rfl,O4,hb4⟩:=F.ex
  have hl4:=O4.llen
  rw [Hd] at hl4
  obtain rfl:os.length=n4:=by omega
  refine Az rfl rfl (Ab (Aa (An ?_)))
  have hb6:=H.lt at0
  have RO:Rd w a4 7 Cf os:=OS.rd O4 (fun y hy=>(hb4 y hy).1) (fun _ _=>rfl) (by omega)
  have hROn:os≠[]→(adr a4).block∉[b6]:=fun hne=>by
   obtain ⟨q,rfl⟩:=O4.form (List.length_pos_iff.2 hne)
   have:=(hb4 (q,Bl 62 f4) (List.mem_singleton.2 rfl)).2
   rw [List.mem_singleton]
   show q≠b6
   dsimp only at this
   omega
  have H4:=H.call F.ext
  have hs4:=H4.size
  have hl64:=H4.lt at0
  obtain ⟨w4,rfl⟩:∃ z,z=w:=⟨_,rfl⟩
  have H:=Ctx.lend (L1:=[_]) (L2:=[]) H4
  dsimp only [List.map] at H
  refine Af (Aj rfl rfl (AV rfl B4 rfl (Ad rfl rfl (Ab (Aa (Au (Bf 34326185088 (α:=LSt) (fun t=>[(7,.slice t.a t.i t.c),(25,.int .i64 (t.i:Int))]) (fun t w'=>t.i≤os.length∧OS t.a t.i t.c 1 t.full (((os.take t.i).map Du.id).map Hk)∧Ctx w4 [b6] w' ((b6,Bl 28 [.int .i64 ((rs.length:Int)+1),.slice none 0 0])::ent t.a 24 t.full)) (fun t=>os.length - t.i) ⟨0,none,0,[]⟩ rfl ?_ ?_ ?_)))))))
  ·exact ⟨rfl,rfl,trivial⟩
  ·exact ⟨Nat.zero_le _,OS.nil,H⟩
  ·clear H
   rintro ⟨i,a2,c2,full⟩ jj w ⟨hi,O,H⟩; dsimp only at hi O H; dsimp only
   refine Af (AZ rfl rfl rfl (Ab (Aa (An (Aq _ rfl ?_ ?_)))))
   ·intro h3
    replace h3:=AF h3
    obtain ⟨d,hd⟩:=A0 (l:=os) (i:=i) (by omega)
    refine Ao (Aa (An (Au (Af (AK RO rfl B4 B2 rfl rfl (by omega) (by omega) (by rfl) ?_)))))
    refine Cv _ rfl E7 B2 rfl rfl ((RO.ext' H.ext hROn).row hd rfl) ?_
    refine Bj rfl Eh H ?_
    rintro b10 w - H
    refine B5 rfl B2 rfl rfl rfl (by exact DM _) H at0 rfl ?_
    rintro w H
    refine Ab (Aa (Av (Aj rfl rfl (Ah rfl Dw rfl (AN rfl BK rfl H at0 rfl (C3 _ (.int _ _) rfl Bz Bo Ob rfl (by decide) (by decide) rfl rfl rfl H ?_))))))
    rintro b32 w - H
    refine Cl (L:=[_,_]) rfl Bz Bz Bo V1 Ob rfl (by decide) rfl rfl H O rfl (by simp [Bm]) (by omega) ?_
    rintro a' c' full' w H O
    refine Az rfl rfl (Ab (A5 (Aa (Av (Ap rfl rfl rfl (by omega) (by omega) ?_)))))
    refine Ad rfl rfl (Ab (Aa ?_))
    exact ⟨⟨i+1,a',c',full'⟩,rfl,⟨rfl,rfl,trivial⟩,⟨by dsimp only; omega,by dsimp only; rw [Fk hd,List.map_append]; exact O,H.tail⟩,by dsimp only; omega⟩
   ·intro h3
    replace h3:=AG h3
    obtain rfl:i=os.length:=by omega
    rw [List.take_length] at O
    refine Bc (Ak (Ak (AD (Aa (An (Af (Aj rfl rfl (Aj rfl rfl (Aw rfl rfl (Am rfl Z7 (UT a a4 _ c _ c4 net _) rfl ?_))))))))))
    rintro v w ⟨x1,x2,x3,rfl,H10⟩
    have H5:=H.call H10.ext
    refine Ab (Aa (Au ?_))
    have RI0:Rd w a2 1 U1 (os.map Du.id):=O.rd1 fun x hx=>H5.blk x (List.mem_cons_of_mem _ hx)
    have hRIn:os.map Du.id≠[]→w4.heap.size≤(adr a2).block:=fun hne=>by
     obtain ⟨q,rfl⟩:=O.form (by have:=List.length_pos_iff.2 hne; rw [List.length_map] at this; exact this)
     rcases H.own (q,Bl 24 full) (List.mem_cons_of_mem _ (List.mem_singleton.2 rfl)) with h | h
     ·exact absurd (List.mem_singleton.1 h) fun h=>H.ne (i:=1) (j:=0) rfl rfl (by decide) h
     ·exact h
    have hk1:=H10.get at1
    have hk2:=H10.get at0
    have hk3:=H10.get at2
    have ho1:=(H10.own _ (List.mem_of_getElem? at1)).elim (fun h=>by cases h) id
    have ho2:=(H10.own _ (List.mem_of_getElem? at0)).elim (fun h=>by cases h) id
    have ho3:=(H10.own _ (List.mem_of_getElem? at2)).elim (fun h=>by cases h) id
    dsimp only at ho1 ho2 ho3
    have hl6:=H.lt at0
    have hs5:=H5.size
    have hx5:=H4.ext.then H5.ext fun x hx => .inr (by rw [List.mem_singleton.1 hx]; exact (H4.own _ (List.mem_of_getElem? at0)).elim (fun h=>by cases h) id)
    have hb60:w0.heap.size≤b6:=(H4.own _ (List.mem_of_getElem? at0)).elim (fun h=>by cases h) id
    have RR:=R.ext0 hx5
    have RO5:=RO.ext' H5.ext hROn
    have hwe:∀ d∈os,-1000000000≤d.we∧d.we≤1000000000:=fun d hd=>by
     rw [hbb] at h1
     have hB:=(EV (by omega)).1 h1
     rw [hos] at hd
     have:=(E5 (hB.due d (Mg hd).1).1).2.2.2.2.1
     omega
    obtain ⟨ws,rfl⟩:∃ z,z=w:=⟨_,rfl⟩
    have H:=Ctx.lend (L1:=[_]) (L2:=_) H5
    dsimp only [List.map] at H
    obtain ⟨es,hes⟩:∃ es,es=BF rs os net:=⟨_,rfl⟩
    have hnR:rs≠[]→(adr a).block∉[b6]:=fun hne=>by
     have:=R.lt' (fun _ _=>rfl) (by decide) hne
     rw [List.mem_singleton]; omega
    have heL:es.length≤3000000:=by rw [hes,Fc]; split <;> omega
    refine LW (gf:=162) rfl ZY (S8 (b1:=x1) (b2:=x2) (b3:=x3) (a:=a) (b:=a4) (c:=c) (e:=c4) (rs:=rs) (ds:=os) (net:=net) rfl rfl hn2 (by omega) hwe) (by kernel_rfl) (by kernel_rfl) (fun v hv=>by obtain ⟨p,-,rfl⟩:=List.mem_map.1 hv; rfl)
     (rndJ ws b6 ((rs.length:Int)+1) es) (fun _=>False) (by simp)
     (fun w2 hx2 _=>⟨_,none,0,[],rfl,H.call hx2,OS.nil,by simp [ent]; omega⟩)
     (fun i M w' w'' hJ hx=>?_) (fun _ _ h _=>h) (fun i M w' hJ=>?_) ?_ ?_ (fun _ h _=>h.elim)
    ·obtain ⟨a7,c7,f7,hM,HJ,O7,hne⟩:=hJ
     refine ⟨a7,c7,f7,hM,HJ.step hx (fun y hy hy2=>?_) (fun x hx => .inr ?_),O7,hne⟩
     ·have:=hne _ (List.mem_map_of_mem (f:=(·.1)) hy)
      simp only [List.mem_cons,List.not_mem_nil,or_false] at hy2
      omega
     ·simp only [List.mem_cons,List.not_mem_nil,or_false] at hx
      omega
    ·obtain ⟨a7,c7,f7,hM,HJ,O7,hne⟩:=hJ
     refine ⟨fun x hx=>?_,HJ.ext.to hk1 (by rw [List.mem_singleton]; omega),HJ.ext.to hk2 (by rw [List.mem_singleton]; omega),HJ.ext.to hk3 (by rw [List.mem_singleton]; omega),RR.ext' HJ.ext hnR,RO5.ext' HJ.ext hROn⟩
     rw [hM] at hx
     obtain ⟨y,hy,rfl⟩:=List.mem_map.1 hx
     exact ⟨Bp (HJ.blk y hy),hne _ hx⟩
    ·rintro i v M w hxv ⟨a7,c7,f7,rfl,HJ,O7,hne⟩ hsz
     rw [List.getElem?_map] at hxv
     obtain ⟨ed,hed,rfl⟩:=Option.map_eq_some_iff.1 hxv
     rw [← hes] at hed
     have hil:=Cr hed
     obtain ⟨w1,rfl⟩:∃ z,z=w:=⟨_,rfl⟩
     have H:=Ctx.start w1 []
     refine Av (Bj rfl Fd H ?_)
     rintro b11 w - H
     refine B5 rfl CC rfl rfl rfl (by exact ES _) H at0 rfl ?_
     rintro w H
     refine Ab ?_
     refine ⟨H.ext,fun wB hxB=>?_⟩
     have hb11:=(H.own _ (List.mem_cons_self ..)).elim (fun h=>by cases h) id
     dsimp only at hb11
     have hs1:=H.size
     have hsB:=hxB.size
     have HB:=(HJ.callAdd H.ext (H.get at0) hb11).step hxB (fun y hy=>by
      rw [List.mem_singleton]
      rcases List.mem_cons.1 hy with rfl | hy
      ·dsimp only; omega
      ·exact (hne _ (List.mem_map_of_mem (f:=(·.1)) hy)).2) (fun z hz => .inr (by rw [List.mem_singleton.1 hz]; omega))
     obtain ⟨w2,rfl⟩:∃ z,z=wB:=⟨_,rfl⟩
     rw [← List.append_nil (_::_::ent a7 92 f7)] at HB
     have H:=Ctx.lend (L1:=_::_::ent a7 92 f7) (L2:=[]) HB
     obtain ⟨SS,hSS⟩:∃ SS,SS=((b11,Bl 92 (Cw ed))::(b6,Bl 28 [.int .i64 ((rs.length:Int)+1),.slice a7 i c7])::ent a7 92 f7).map (·.1):=⟨_,rfl⟩
     rw [← hSS] at H
     refine Au (Av (Ah rfl Cc rfl (AN rfl Dh rfl H at1 rfl (B6 rfl Ho CC rfl H at0 rfl (C3 _ (.agg _) rfl C0 CC Fd rfl (by decide) (by decide) rfl rfl rfl H ?_)))))
     rintro b43 w - H
     refine Cl (L:=[_,_]) rfl C0 C0 CC Tt Fd rfl (by decide) rfl rfl H O7 rfl (ES ed) (by omega) ?_
     rintro a' c' full' w H O
     refine Ah rfl Cc rfl (Cy (.slice _ _ _) rfl VX rfl rfl rfl H at1 (by (simp; done)) ?_)
     rintro w H
     refine Ab (A5 ?_)
     rw [hSS] at H
     have HE:=H.ext
     have HH:=Ctx.back HB H
     rw [List.append_nil] at HH
     refine ⟨_,⟨a',c',full',rfl,HH.tail,by rw [List.take_add_one,hed,List.flatMap_append]; exact O,fun y hy=>?_⟩,fun y hy=>?_,_,HE,fun y hy=>?_⟩
     ·obtain ⟨z,hz,rfl⟩:=List.mem_map.1 hy
      rcases H.own z (List.mem_cons_of_mem _ hz) with h | h
      ·rcases List.mem_cons.1 h with h | h
       ·dsimp only at h; omega
       ·exact hne _ h
      ·have:=hxB.size; have:=H.ext.size; omega
     ·obtain ⟨z,hz,rfl⟩:=List.mem_map.1 hy
      rcases H.own z (List.mem_cons_of_mem _ hz) with h | h
      ·rcases List.mem_cons.1 h with h | h
       ·exact .inr (by dsimp only at h; omega)
       ·exact .inl h
      ·exact .inr (by have:=hxB.size; omega)
     ·rcases List.mem_cons.1 hy with h | h
      ·exact .inr (by dsimp only at h; omega)
      ·exact .inl h
    ·rintro M w ⟨a7,c7,f7,rfl,HJ,O7,hne⟩ hD
     rw [List.length_map,← hes] at HJ O7 hne
     rw [List.take_length] at O7
     have H:=HJ
     obtain ⟨w1,rfl⟩:∃ z,z=w:=⟨_,rfl⟩
     rw [← List.append_nil (_::ent a7 92 f7)] at HJ
     have H:=Ctx.lend (L1:=_::ent a7 92 f7) (L2:=[]) HJ
     obtain ⟨SS,hSS⟩:∃ SS,SS=((b6,Bl 28 [.int .i64 ((rs.length:Int)+1),.slice a7 es.length c7])::ent a7 92 f7).map (·.1):=⟨_,rfl⟩
     rw [← hSS] at H hne
     have hDn:ws.heap.size∉SS:=fun h=>(hne _ h).1 rfl
     refine A5 (Aa (Af (B6 rfl Cm BQ rfl H at0 rfl (Aj rfl rfl (B5 rfl BQ rfl rfl rfl (by simp [Bm]) H at0 rfl ?_)))))
     rintro w H
     refine Az rfl rfl (Ae rfl rfl (Ab (Aa (A8 (QX rfl rfl rfl rfl ?_)))))
     refine G6 (H.ext.to hD hDn) rfl fun wF hxF=>?_
     rw [hSS] at H
     have HH:=Ctx.back HJ H
     rw [List.append_nil] at HH
     rw [hSS] at hne
     have HF:=HH.step hxF (fun y hy h=>(hne _ (List.mem_map_of_mem (f:=(·.1)) hy)).1 (List.mem_singleton.1 h)) (fun z hz => .inr (by rw [List.mem_singleton.1 hz]; omega))
     have hown:∀ y∈((b6,Bl 28 [.int .i64 ((rs.length:Int)+1),.slice a7 es.length c7])::ent a7 92 f7),w0.heap.size≤y.1:=fun y hy=>by
      rcases HF.own y hy with h | h
      ·rw [List.mem_singleton.1 h]; exact hb60
      ·have:=hx5.size; omega
     have hxx:=hx5.then HF.ext fun x hx => .inr (by rw [List.mem_singleton.1 hx]; exact hb60)
     refine ⟨_,FQ Cm BQ rfl (fun j v hv=>by rw [Ay (HF.get at0),Nat.zero_add]; exact hv),hxx,.inr ⟨by rw [← hbb]; exact h1,a7,es.length,c7,.slice a2 os.length c2,rfl,?_,?_⟩⟩
     ·rw [← hos,← hes]
      refine ⟨a7,c7,rfl,O7.le,OS.rd O7 (fun x hx=>HF.blk x (List.mem_cons_of_mem _ hx)) (fun _ _=>rfl) (by decide),fun hne'=>?_⟩
      obtain ⟨q,rfl⟩:=O7.form (List.length_pos_iff.2 hne')
      exact hown (q,Bl 92 f7) (List.mem_cons_of_mem _ (List.mem_singleton.2 rfl))
     ·rw [← hos]
      have hd4:os.map Du.id≠[]→w4.heap.size≤(adr a2).block:=hRIn
      refine ⟨a2,c2,by rw [List.length_map],by rw [List.length_map]; exact O.le,RI0.ext' HF.ext (fun hne'=>?_),fun hne'=>?_⟩
      ·have:=hRIn hne'
       rw [List.mem_singleton]; omega
      ·have:=hRIn hne'
       omega
end Go.Proofs.YtapphbmlkdhnmaaGreat

/- Nets, as the reference has them: Right, Within. -/
namespace Go.Proofs.YtapphbmlkdhnmaaGreat
open Go.GV
attribute [local irreducible] AL W Wq Wt

set_option maxRecDepth 20000 in
set_option maxHeartbeats 4000000 in
theorem Hv (N:Int) (a:Option Addr) (n c:Nat) (es:List Ed) (w:World) (R:Rd w a 4 Cw es) (hn:es.length=n) (hn2:n≤1000000):Ret Tryz.prog 63 #[CS N a n c] w fun v w'=>v = .bool (Cb N es)∧Ext [] w w':=by
 subst hn
 obtain ⟨w0,rfl⟩:∃ w0,w0=w:=⟨_,rfl⟩
 have H:=Ctx.start w0 []
 refine A9 (fn:=Tryz.f63) Tryz.func63 rfl [CS N a es.length c] rfl (by kernel_rfl) ?_
 refine Af (BC rfl [.int .i64 N,.slice a es.length c] (.agg _) rfl rfl H ?_)
 rintro b1 w - H
 refine Ai rfl rfl (Ab (Aa (An (Af (BD (α:=Unit) 1048512 (fun _=>[(19,.bool (!((decide (1≤N) && decide (N≤40)) && decide (es.length≤200))))]) (fun _ w'=>Ctx w0 [] w' [(b1,Bl 28 [.int .i64 N,.slice a es.length c])]) rfl ?_ ?_)))))
 ·refine Ah rfl D5 rfl (AN rfl BV rfl H at0 rfl (AZ rfl rfl rfl (Aw rfl rfl (AE 9 rfl ?_ ?_))))
  ·intro h1
   replace h1:=AF h1
   refine Ag rfl (Ag rfl (Ag rfl (AA rfl rfl (.bool _) rfl (Aw rfl rfl (Ag rfl (Ag rfl (Ag rfl (Ag rfl (AA rfl rfl (.bool _) rfl ?_)))))))))
   refine Ab ?_
   exact ⟨rfl,(),rfl,⟨congrArg Value.bool (by rw [Bool.eq_iff_iff]; simp_all; try omega),trivial⟩,H⟩
  ·intro h2
   replace h2:=AG h2
   refine Ah rfl D5 rfl (AN rfl BV rfl H at0 rfl (Ck rfl rfl rfl (A6 rfl rfl (.bool _) rfl (Aw rfl rfl (AE 14 rfl ?_ ?_)))))
   ·intro h3
    replace h3:=AF h3
    refine Ag rfl (Ag rfl (Ag rfl (Ag rfl (AA rfl rfl (.bool _) rfl (Ab ?_)))))
    exact ⟨rfl,(),rfl,⟨congrArg Value.bool (by rw [Bool.eq_iff_iff]; simp_all; try omega),trivial⟩,H⟩
   ·intro h4
    replace h4:=AG h4
    refine Ah rfl Cc rfl (AN rfl Dh rfl H at0 rfl (AV rfl C0 rfl (Ck rfl rfl rfl (A6 rfl rfl (.bool _) rfl (Ab ?_)))))
    exact ⟨rfl,(),rfl,⟨congrArg Value.bool (by rw [Bool.eq_iff_iff]; simp_all; try omega),trivial⟩,H⟩
 rintro - j19 w H
 refine Aq _ rfl ?_ ?_
 ·intro h1
  replace h1:=Bv h1
  refine Af (Ai rfl rfl (Ab (Aa (A8 (Al (AB (v:=(.bool _)) rfl rfl rfl ?_))))))
  exact ⟨congrArg Value.bool (by unfold Cb; rw [← Bool.and_assoc,show ((decide (1≤N) && decide (N≤40)) && decide (es.length≤200))=false by simpa using h1]; rfl),H.ext⟩
 ·intro h1
  replace h1:=Bw h1
  have h1':((decide (1≤N) && decide (N≤40)) && decide (es.length≤200))=true:=by simpa using h1
  have hrN:Cb N es=(es.all (DV N) && decide (Ef es≤4611686018427387904)):=by unfold Cb; rw [← Bool.and_assoc,h1']; rfl
  refine Ao (Aa (Af (Ae rfl rfl (Ab (Aa (An (Af (Ae rfl rfl (Ab (Aa (Au (Bf 2417851639229258348363836 (α:=Nat) (fun i=>[(3,.int .i64 ((Ef (es.take i):Nat):Int)),(4,.int .i64 (i:Int))]) (fun i w'=>i≤es.length∧Ctx w0 [] w' [(b1,Bl 28 [.int .i64 N,.slice a es.length c])]∧Ef (es.take i)≤4611686018427387904∧∀ (k:Nat) (e:Ed),k<i→es[k]? = some e→DV N e=true) (fun i=>es.length - i) 0 rfl ?_ ?_ ?_))))))))))))
  ·exact ⟨rfl,rfl,trivial⟩
  ·exact ⟨Nat.zero_le _,H,Nat.zero_le _,fun k e h=>absurd h (Nat.not_lt_zero _)⟩
  ·rintro i j w ⟨hi,H,hpr,hb⟩
   refine An (Af (Ad rfl rfl (Ah rfl Cc rfl (AN rfl Dh rfl H at0 rfl (AV rfl C0 rfl (AZ rfl rfl rfl (Ab (Aa (Aq _ rfl ?_ ?_)))))))))
   ·intro h2
    replace h2:=AF h2
    obtain ⟨e,he⟩:=A0 (l:=es) (i:=i) (by omega)
    have hps:=I2 he
    have hpt:=I3 es (i+1)
    refine Ao (Aa (An (Au (Af (Ah rfl Cc rfl (AN rfl Dh rfl H at0 rfl (Ad rfl rfl (AK R rfl C0 CC rfl rfl (by omega) (by omega) (by rfl) ?_))))))))
    refine Cv _ rfl Ho CC rfl rfl ((R.ext0 H.ext).row he rfl) ?_
    refine Bj rfl Fd H ?_
    rintro b5 w - H
    refine B5 rfl CC rfl rfl rfl (by exact ES _) H at0 rfl ?_
    rintro w H
    refine Ab (Aa (An (Af (BD (α:=Unit) 18446744069414584320 (fun _=>[(63,.bool (!DV N e))]) (fun _ w'=>Ctx w0 [] w' [(b5,Bl 92 (Cw e)),(b1,Bl 28 [.int .i64 N,.slice a es.length c])]) rfl ?_ ?_))))
    ·refine B6 rfl Cm BQ rfl H at1 rfl (Ah rfl EY rfl (AN rfl BV rfl H at0 rfl (Am rfl V8 (QS N a es.length c e.f _) rfl ?_)))
     rintro v w ⟨rfl,hx35⟩
     replace H:=H.call hx35
     refine B1 rfl rfl (Aw rfl rfl (AE 37 rfl ?_ ?_))
     ·intro h5
      replace h5:=Bv h5
      refine Ag rfl (Ag rfl (Ag rfl (Ag rfl (Ag rfl (AA rfl rfl (.bool _) rfl (Aw rfl rfl (Ag rfl (Ag rfl (Ag rfl ?_)))))))))
      refine AA rfl rfl (.bool _) rfl (Aw rfl rfl (Ag rfl (Ag rfl (Ag rfl (AA rfl rfl (.bool _) rfl (Aw rfl rfl (Ag rfl (Ag rfl (Ag rfl ?_)))))))))
      refine AA rfl rfl (.bool _) rfl (Aw rfl rfl (Ag rfl (Ag rfl (Ag rfl (AA rfl rfl (.bool _) rfl (Ab ?_))))))
      exact ⟨rfl,(),rfl,⟨congrArg Value.bool (by unfold DV; unfold KM at *; unfold GU; rw [Bool.eq_iff_iff]; simp_all; try omega),trivial⟩,H⟩
     ·intro h6
      replace h6:=Bw h6
      refine B6 rfl Cm BQ rfl H at1 rfl (Ah rfl EZ rfl (AN rfl BV rfl H at0 rfl (Am rfl V8 (QS N a es.length c e.t _) rfl ?_)))
      rintro v w ⟨rfl,hx41⟩
      replace H:=H.call hx41
      refine B1 rfl rfl (A6 rfl rfl (.bool _) rfl (Aw rfl rfl (AE 44 rfl ?_ ?_)))
      ·intro h7
       replace h7:=Bv h7
       refine Ag rfl (Ag rfl (Ag rfl (AA rfl rfl (.bool _) rfl (Aw rfl rfl (Ag rfl (Ag rfl (Ag rfl (AA rfl rfl (.bool _) rfl (Aw rfl rfl ?_)))))))))
       refine Ag rfl (Ag rfl (Ag rfl (AA rfl rfl (.bool _) rfl (Aw rfl rfl (Ag rfl (Ag rfl (Ag rfl (AA rfl rfl (.bool _) rfl (Ab ?_)))))))))
       exact ⟨rfl,(),rfl,⟨congrArg Value.bool (by unfold DV; unfold KM at *; unfold GU; rw [Bool.eq_iff_iff]; simp_all; try omega),trivial⟩,H⟩
      ·intro h8
       replace h8:=Bw h8
       refine Ah rfl DP rfl (AN rfl Bt rfl H at0 rfl (AZ rfl rfl rfl (A6 rfl rfl (.bool _) rfl (Aw rfl rfl (AE 49 rfl ?_ ?_)))))
       ·intro h9
        replace h9:=AF h9
        refine Ag rfl (Ag rfl (Ag rfl (AA rfl rfl (.bool _) rfl (Aw rfl rfl (Ag rfl (Ag rfl (Ag rfl (AA rfl rfl (.bool _) rfl (Aw rfl rfl ?_)))))))))
        refine Ag rfl (Ag rfl (Ag rfl (AA rfl rfl (.bool _) rfl (Ab ?_))))
        exact ⟨rfl,(),rfl,⟨congrArg Value.bool (by unfold DV; unfold KM at *; unfold GU; rw [Bool.eq_iff_iff]; simp_all; try omega),trivial⟩,H⟩
       ·intro h10
        replace h10:=AG h10
        refine Ah rfl DP rfl (AN rfl Bt rfl H at0 rfl (Ck rfl rfl rfl (A6 rfl rfl (.bool _) rfl (Aw rfl rfl (AE 54 rfl ?_ ?_)))))
        ·intro h11
         replace h11:=AF h11
         refine Ag rfl (Ag rfl (Ag rfl (AA rfl rfl (.bool _) rfl (Aw rfl rfl (Ag rfl (Ag rfl (Ag rfl (AA rfl rfl (.bool _) rfl (Ab ?_)))))))))
         exact ⟨rfl,(),rfl,⟨congrArg Value.bool (by unfold DV; unfold KM at *; unfold GU; rw [Bool.eq_iff_iff]; simp_all; try omega),trivial⟩,H⟩
        ·intro h12
         replace h12:=AG h12
         refine Ah rfl EK rfl (AN rfl Bt rfl H at0 rfl (AZ rfl rfl rfl (A6 rfl rfl (.bool _) rfl (Aw rfl rfl (AE 59 rfl ?_ ?_)))))
         ·intro h13
          replace h13:=AF h13
          refine Ag rfl (Ag rfl (Ag rfl (AA rfl rfl (.bool _) rfl (Ab ?_))))
          exact ⟨rfl,(),rfl,⟨congrArg Value.bool (by unfold DV; unfold KM at *; unfold GU; rw [Bool.eq_iff_iff]; simp_all; try omega),trivial⟩,H⟩
         ·intro h14
          replace h14:=AG h14
          refine Ah rfl EK rfl (AN rfl Bt rfl H at0 rfl (Ck rfl rfl rfl (A6 rfl rfl (.bool _) rfl (Ab ?_))))
          exact ⟨rfl,(),rfl,⟨congrArg Value.bool (by unfold DV; unfold KM at *; unfold GU; rw [Bool.eq_iff_iff]; simp_all; try omega),trivial⟩,H⟩
    rintro - j63 w H
    refine Aq _ rfl ?_ ?_
    ·intro h3
     replace h3:=Bv h3
     refine Af (Ai rfl rfl (Ab (Aa (A8 (Al (A1 (Al (Al (A1 (Al (AB (v:=(.bool _)) rfl rfl rfl ?_)))))))))))
     exact ⟨congrArg Value.bool (by rw [hrN,C9 he (by simpa using h3)]; rfl),H.ext⟩
    ·intro h3
     replace h3:=Bw h3
     have h3':DV N e=true:=by simpa using h3
     obtain ⟨-,-,-,-,q1,q2,q3,q4⟩:=D6 h3'
     obtain ⟨cp,hcp⟩:∃ cp:Nat,e.cap=(cp:Int):=⟨e.cap.toNat,by omega⟩
     have hpe:Fe e=cp*e.cost.natAbs:=by unfold Fe; rw [hcp,Int.toNat_natCast]
     have hpm:Fe e≤4503599627370496*1000:=by rw [hpe]; exact Nat.mul_le_mul (by omega) (by omega)
     have hmx:e.cap*max e.cost (-e.cost)=((Fe e:Nat):Int):=by
      rw [hpe,hcp,Int.natCast_mul]
      congr 1
      omega
     refine Ao (Aa (Af (Ad rfl rfl (Ah rfl DP rfl (AN rfl Bt rfl H at0 rfl (Ah rfl EK rfl (AN rfl Bt rfl H at0 rfl (Ah rfl EK rfl (AN rfl Bt rfl H at0 rfl (GF rfl rfl (by omega) (by omega) ?_))))))))))
     refine Jy rfl rfl rfl ?_
     refine Dd rfl rfl rfl (by rw [hmx]; omega) (by rw [hmx]; omega) ?_
     rw [hmx]
     refine Ap rfl rfl rfl (by omega) (by omega) ?_
     rw [← Int.natCast_add,← hps]
     refine Ae rfl rfl (Ab (Aa (Af (BD (α:=Unit) 2380072707366301187702784 (fun _=>[(80,.bool (!decide (Ef (es.take (i+1))≤4611686018427387904)))]) (fun _ w'=>Ctx w0 [] w' [(b5,Bl 92 (Cw e)),(b1,Bl 28 [.int .i64 N,.slice a es.length c])]) rfl ?_ ?_))))
     ·refine Ad rfl rfl (AZ rfl rfl rfl (Aw rfl rfl (AE 77 rfl ?_ ?_)))
      ·intro h15
       replace h15:=AF h15
       refine Ag rfl (Ag rfl (AA rfl rfl (.bool _) rfl (Ab ?_)))
       exact ⟨rfl,(),rfl,⟨congrArg Value.bool (by rw [Bool.eq_iff_iff]; simp_all; try omega),trivial⟩,H⟩
      ·intro h16
       replace h16:=AG h16
       refine Ad rfl rfl (Ck rfl rfl rfl (A6 rfl rfl (.bool _) rfl (Ab ?_)))
       exact ⟨rfl,(),rfl,⟨congrArg Value.bool (by rw [Bool.eq_iff_iff]; simp_all; try omega),trivial⟩,H⟩
     rintro - j80 w H
     refine Aq _ rfl ?_ ?_
     ·intro h4
      replace h4:=Bv h4
      refine Af (Ai rfl rfl (Ab (Aa (A8 (A1 (Al (Al (A1 (Al (AB (v:=(.bool _)) rfl rfl rfl ?_))))))))))
      have h4':¬ Ef (es.take (i+1))≤4611686018427387904:=by simpa using h4
      exact ⟨congrArg Value.bool (by rw [hrN,decide_eq_false (show ¬ Ef es≤4611686018427387904 by omega),Bool.and_false]),H.ext⟩
     ·intro h4
      replace h4:=Bw h4
      have h4':Ef (es.take (i+1))≤4611686018427387904:=by simpa using h4
      refine Ao (A5 (Aa (Av (Ad rfl rfl (Ap rfl rfl rfl (by omega) (by omega) ?_)))))
      refine Ae rfl rfl (Ab (Aa ?_))
      refine ⟨i+1,rfl,⟨rfl,rfl,trivial⟩,⟨by omega,H.tail,h4',fun k y hk hy=>?_⟩,by omega⟩
      rcases Nat.lt_or_ge k i with h7 | h7
      ·exact hb k y h7 hy
      ·obtain rfl:k=i:=by omega
       rw [he] at hy
       cases hy
       exact h3'
   ·intro h2
    replace h2:=AG h2
    refine Bc (Ak (Ak (AD (Aa (Af (Ai rfl rfl (Ab (Aa (A8 (AB (v:=(.bool _)) rfl rfl rfl ?_))))))))))
    rw [List.take_of_length_le (by omega)] at hpr
    exact ⟨congrArg Value.bool (by rw [hrN,CV fun k x hk hx=>hb k x (by omega) hx,decide_eq_true hpr]; rfl),H.ext⟩
set_option maxRecDepth 20000 in
set_option maxHeartbeats 4000000 in
theorem IB (N:Int) (a b:Option Addr) (n c m d:Nat) (es:List Ed) (fl:List Int) (w:World) (R:Rd w a 4 Cw es) (hn:es.length=n) (hn2:n≤1000000) (Rf:Rd w b 1 I1 fl) (hm:fl.length=m) (hm2:m≤1000000) :
  Ret Tryz.prog 125 #[CS N a n c,.slice b m d] w fun v w'=>v = .bool (BG N es fl)∧Ext [] w w':=by
 subst hn hm
 obtain ⟨w0,rfl⟩:∃ w0,w0=w:=⟨_,rfl⟩
 have H:=Ctx.start w0 []
 refine A9 (fn:=Tryz.f125) Tryz.func125 rfl [CS N a es.length c,.slice b fl.length d] rfl (by kernel_rfl) ?_
 refine Af (BC rfl [.int .i64 N,.slice a es.length c] (.agg _) rfl rfl H ?_)
 rintro b2 w - H
 refine Ai rfl rfl (Ab (Aa (An (Af (BD (α:=Unit) 131008 (fun _=>[(16,.bool (!(decide (fl.length=es.length) && Cb N es)))]) (fun _ w'=>Ctx w0 [] w' [(b2,Bl 28 [.int .i64 N,.slice a es.length c])]) rfl ?_ ?_)))))
 ·refine B6 rfl Cm BQ rfl H at0 rfl (Am rfl Tw (Hv N a es.length c es _ (R.ext0 H.ext) rfl hn2) rfl ?_)
  rintro v w ⟨rfl,hx7⟩
  replace H:=H.call hx7
  refine B1 rfl rfl (Aw rfl rfl (AE 9 rfl ?_ ?_))
  ·intro h1
   replace h1:=Bv h1
   refine Ag rfl (Ag rfl (Ag rfl (Ag rfl (Ag rfl (Ag rfl (AA rfl rfl (.bool _) rfl (Ab ?_)))))))
   exact ⟨rfl,(),rfl,⟨congrArg Value.bool (by rw [Bool.eq_iff_iff]; simp_all; try omega),trivial⟩,H⟩
  ·intro h2
   replace h2:=Bw h2
   refine Aj rfl rfl (AV rfl AO rfl (Ah rfl Cc rfl (AN rfl Dh rfl H at0 rfl (AV rfl C0 rfl (Cp rfl rfl rfl (A6 rfl rfl (.bool _) rfl (Ab ?_)))))))
   exact ⟨rfl,(),rfl,⟨congrArg Value.bool (by rw [Bool.eq_iff_iff]; simp_all; try omega),trivial⟩,H⟩
 rintro - j16 w H
 refine Aq _ rfl ?_ ?_
 ·intro h1
  replace h1:=Bv h1
  refine Af (Ai rfl rfl (Ab (Aa (A8 (Al (AB (v:=(.bool _)) rfl rfl rfl ?_))))))
  exact ⟨congrArg Value.bool (by unfold BG; rw [show (decide (fl.length=es.length) && Cb N es)=false by simpa using h1]; rfl),H.ext⟩
 ·intro h1
  replace h1:=Bw h1
  have h1':(decide (fl.length=es.length) && Cb N es)=true:=by simpa using h1
  have hw:BG N es fl=(List.zipWith inB es fl).all id:=by unfold BG; rw [h1']; rfl
  have hle:fl.length=es.length:=by simp only [Bool.and_eq_true,decide_eq_true_eq] at h1'; exact h1'.1
  refine Ao (Aa (An (Af (Ae rfl rfl (Ab (Aa (Au (Bf 2199023124528 (α:=Nat) (fun i=>[(5,.int .i64 (i:Int))]) (fun i w'=>i≤fl.length∧Ctx w0 [] w' [(b2,Bl 28 [.int .i64 N,.slice a es.length c])]∧∀ (k:Nat) (e:Ed) (x:Int),k<i→es[k]? = some e→fl[k]? = some x→inB e x=true) (fun i=>fl.length - i) 0 rfl ?_ ?_ ?_))))))))
  ·exact ⟨rfl,trivial⟩
  ·exact ⟨Nat.zero_le _,H,fun k e x h=>absurd h (Nat.not_lt_zero _)⟩
  ·rintro i j w ⟨hi,H,hb⟩
   refine An (Af (Ad rfl rfl (Aj rfl rfl (AV rfl AO rfl (AZ rfl rfl rfl (Ab (Aa (Aq _ rfl ?_ ?_))))))))
   ·intro h2
    replace h2:=AF h2
    obtain ⟨e,he⟩:=A0 (l:=es) (i:=i) (by omega)
    obtain ⟨x,hx⟩:=A0 (l:=fl) (i:=i) (by omega)
    have hnext:inB e x=true→∀ (k:Nat) (f:Ed) (y:Int),k<i+1→es[k]? = some f→fl[k]? = some y→inB f y=true:=fun h3 k f y hk hf hy=>by
     rcases Nat.lt_or_ge k i with h7 | h7
     ·exact hb k f y h7 hf hy
     ·obtain rfl:k=i:=by omega
      rw [he] at hf; rw [hx] at hy
      cases hf; cases hy
      exact h3
    have hbad:inB e x=false→BG N es fl=false:=fun h3=>by rw [hw,C9 (Kf he hx) (show id (inB e x)=false from h3)]
    have hxf:=hx
    refine Ao (Aa (An (Au (CP [([0,1,2,3,4,5,6,7,8,9,10,11,12,13,14,15,16],17)] (fun z=>Ext [] w0 z∧z.heap[b2]? = some (Bl 28 [.int .i64 N,.slice a es.length c])) [] B0 (by kernel_rfl) (⟨H.drew.ext,H.drew.get at0⟩) ?_))))
    refine AU rfl rfl ?_
    refine Bi rfl rfl (AS rfl rfl (BT Rf rfl AO Bu rfl rfl (by omega) (by omega) (by rfl) ?_))
    refine BP rfl Bt rfl (fun _ hx=>((Rf.ext0 hx.1).fld hxf rfl (j:=0) rfl)) ?_
    refine Tl rfl rfl rfl (CU rfl rfl (GI 28 rfl ?_ ?_))
    ·intro g1
     replace g1:=AF g1
     refine Bq rfl (Bq rfl (Bq rfl (Bq rfl (Bq rfl (Bq rfl (Bq rfl (Bq rfl (Bq rfl (Bq rfl ?_)))))))))
     refine Bq rfl (Ba ?_)
     replace H:=H.drew
     refine AA rfl rfl (.bool _) rfl (Ab (BL (⟨H.ext,H.get at0⟩) (BO (Dj rfl (Af (Ai rfl rfl (Ab (Aa (A8 (A1 (Al (Al (A1 (Al (AB (v:=(.bool _)) rfl rfl rfl ?_)))))))))))))))
     exact ⟨congrArg Value.bool (hbad (by unfold inB; rw [decide_eq_false (show ¬ 0≤x by omega)]; rfl)).symm,H.ext⟩
    ·intro g1
     replace g1:=AG g1
     refine Bi rfl rfl (AS rfl rfl (BT Rf rfl AO Bu rfl rfl (by omega) (by omega) (by rfl) ?_))
     refine BP rfl Bt rfl (fun _ hx=>((Rf.ext0 hx.1).fld hxf rfl (j:=0) rfl)) ?_
     refine AH rfl Cc rfl (BP rfl Dh rfl (fun _ hx=>(by rw [Ay (hx.2)]; rfl)) ?_)
     refine AS rfl rfl (BT R rfl C0 CC rfl rfl (by omega) (by omega) (by rfl) ?_)
     refine AH rfl DP rfl (BP rfl Bt rfl (fun _ hx=>((R.ext0 hx.1).fld he rfl (j:=2) rfl)) ?_)
     refine Vq rfl rfl rfl (Ba ?_)
     replace H:=H.drew
     refine A6 rfl rfl (.bool _) rfl (Ab (BL (⟨H.ext,H.get at0⟩) (BO (Aq _ rfl ?_ ?_))))
     ·intro g2
      replace g2:=AF g2
      refine Af (Ai rfl rfl (Ab (Aa (A8 (A1 (Al (Al (A1 (Al (AB (v:=(.bool _)) rfl rfl rfl ?_))))))))))
      exact ⟨congrArg Value.bool (hbad (by unfold inB; rw [decide_eq_false (show ¬ x≤e.cap by omega),Bool.and_false])).symm,H.ext⟩
     ·intro g2
      replace g2:=AG g2
      refine Ao (A5 (Aa (Av (Ad rfl rfl (Ap rfl rfl rfl (by omega) (by omega) ?_)))))
      refine Ae rfl rfl (Ab (Aa ?_))
      exact ⟨i+1,rfl,⟨rfl,trivial⟩,⟨by omega,H,hnext (by unfold inB; rw [decide_eq_true (show 0≤x by omega),decide_eq_true (show x≤e.cap by omega)]; rfl)⟩,by omega⟩
   ·intro h2
    replace h2:=AG h2
    refine Bc (Ak (Ak (AD (Aa (Af (Ai rfl rfl (Ab (Aa (A8 (AB (v:=(.bool _)) rfl rfl rfl ?_))))))))))
    refine ⟨congrArg Value.bool ?_,H.ext⟩
    rw [hw,CV fun k x hk hx=>?_]
    rw [List.length_zipWith] at hk
    obtain ⟨e,he⟩:=A0 (l:=es) (i:=k) (by omega)
    obtain ⟨y,hy⟩:=A0 (l:=fl) (i:=k) (by omega)
    rw [Kf he hy] at hx
    cases hx
    exact hb k e y (by omega) he hy
end Go.Proofs.YtapphbmlkdhnmaaGreat

/- Flows, as the reference has them: Over, Flows. -/
namespace Go.Proofs.YtapphbmlkdhnmaaGreat
open Go.GV
attribute [local irreducible] AL W Wq Wt

/-- What is over at the first nodes. -/
def ovI (g:Gr) (x:Nat→Int) (v i q:Nat):Int:=if q<v then BA g x q else if q=v then Ee g x i v else 0
theorem Xo (g:Gr) (x:Nat→Int) (q:Nat):ovI g x 0 0 q=0:=by
 unfold ovI
 rw [if_neg (by omega)]
 split
 ·rfl
 ·rfl
theorem YG (g:Gr) (x:Nat→Int) (v q:Nat):ovI g x v g.E q=ovI g x (v+1) 0 q:=by
 unfold ovI
 by_cases h:q<v
 ·rw [if_pos h,if_pos (by omega)]
 ·rw [if_neg h]
  by_cases h2:q=v
  ·subst h2
   rw [if_pos rfl,if_pos (by omega)]; rfl
  ·rw [if_neg h2,if_neg (by omega)]
   split <;> rfl
theorem PF (g:Gr) (x:Nat→Int) (v i:Nat):ovI g x v i v=Ee g x i v:=by unfold ovI; rw [if_neg (by omega),if_pos rfl]
theorem Xp (g:Gr) (x:Nat→Int) (v i j:Nat) {q:Nat} (h:q≠v):ovI g x v i q=ovI g x v j q:=by unfold ovI; rw [if_neg h,if_neg h]
set_option maxRecDepth 20000 in
set_option maxHeartbeats 8000000 in
theorem SF (N:Int) (a b:Option Addr) (n c m d:Nat) (es:List Ed) (fl:List Int) (w:World) (R:Rd w a 4 Cw es) (hn:es.length=n) (hn2:n≤1000000) (Rf:Rd w b 1 I1 fl) (hm:fl.length=m) (hm2:m≤1000000) (hwi:BG N es fl=true) :
  Ret Tryz.prog 126 #[CS N a n c,.slice b m d] w fun v w'=>∃ b',v = .slice (some ⟨b',0,none⟩) N.toNat N.toNat∧Ctx w [] w' [(b',Bl 2 (BE (BA (grE N es) (flE fl)) N.toNat))]:=by
 subst hn hm
 obtain ⟨w0,rfl⟩:∃ w0,w0=w:=⟨_,rfl⟩
 have H:=Ctx.start w0 []
 obtain ⟨hl,hr,hin⟩:=BZ hwi
 obtain ⟨h1,h40,hE,hall,-⟩:=Cn hr
 obtain ⟨nn,hnn⟩:∃ nn:Nat,N=(nn:Int):=⟨N.toNat,by omega⟩
 obtain ⟨g,hg⟩:∃ g,g=grE N es:=⟨_,rfl⟩
 obtain ⟨x,hx⟩:∃ x,x=flE fl:=⟨_,rfl⟩
 have hgE:g.E=es.length:=by rw [hg]; rfl
 rw [← hg,← hx]
 subst hnn
 rw [show ((nn:Int)).toNat=nn from rfl]
 have hxb:∀ j,j<es.length→0≤x j∧x j≤4503599627370496:=fun j hj=>by
  obtain ⟨e',he'⟩:=A0 (l:=es) (i:=j) hj
  obtain ⟨y,hy⟩:=A0 (l:=fl) (i:=j) (by omega)
  have h3:=hin j e' y he' hy
  have h4:=D6 (hall e' (List.mem_of_getElem? he'))
  rw [hx]
  show 0≤fl.getD j 0∧fl.getD j 0≤4503599627370496
  rw [Bn hy]
  omega
 refine A9 (fn:=Tryz.f126) Tryz.func126 rfl [CS (nn:Int) a es.length c,.slice b fl.length d] rfl (by kernel_rfl) ?_
 refine Af (BC rfl [.int .i64 (nn:Int),.slice a es.length c] (.agg _) rfl rfl H ?_)
 rintro b2 w - H
 refine Az rfl rfl (Ab (Aa (An (Af (B6 rfl Cm BQ rfl H at0 rfl (Aj rfl rfl (Am rfl Sb (IB (nn:Int) a b es.length c fl.length d es fl _ (R.ext0 H.ext) rfl hn2 (Rf.ext0 H.ext) rfl hm2) rfl ?_)))))))
 rintro v w ⟨rfl,hx10⟩
 replace H:=H.call hx10
 rw [hwi]
 refine B1 rfl rfl (Ab (Aa (Aq _ rfl ?_ ?_)))
 ·intro g1
  replace g1:=Bv g1
  cases g1
 ·intro g1
  replace g1:=Bw g1
  refine Ao (Aa (Af (Ah rfl D5 rfl (AN rfl BV rfl H at0 rfl (F8 rfl AO Bu HN Fa rfl rfl (by omega) (by omega) (by omega) (by omega) H ?_)))))
  rintro b14 w - H
  rw [show ((nn:Int)).toNat=nn from rfl,DZ] at H
  refine Az rfl rfl (Ab (Aa (An (Af (Ae rfl rfl (Ab (Aa (Au (Bf 147573952589676380352 (α:=Nat) (fun v=>[(6,.int .i64 (v:Int))]) (fun v w'=>v≤nn∧Ctx w0 [] w' [(b14,Bl 2 (BE (ovI g x v 0) nn)),(b2,Bl 28 [.int .i64 (nn:Int),.slice a es.length c])]) (fun v=>nn - v) 0 rfl ?_ ?_ ?_)))))))))
  ·exact ⟨rfl,trivial⟩
  ·refine ⟨Nat.zero_le _,?_⟩
   rw [show BE (ovI g x 0 0) nn=BE (fun _=>0) nn from List.map_congr_left fun q _=>by rw [Xo]]
   exact H
  ·clear H
   rintro v j6 w ⟨hv,H⟩
   refine An (Af (Ad rfl rfl (Ah rfl D5 rfl (AN rfl BV rfl H at1 rfl (AZ rfl rfl rfl (Ab (Aa (Aq _ rfl ?_ ?_))))))))
   ·intro g2
    replace g2:=AF g2
    refine Ao (Aa (An (Au (Af (Ae rfl rfl (Ab (Aa (Au (Bf 147573952589674315904 (α:=Nat) (fun i=>[(7,.int .i64 (i:Int))]) (fun i w'=>i≤es.length∧Ctx w0 [] w' [(b14,Bl 2 (BE (ovI g x v i) nn)),(b2,Bl 28 [.int .i64 (nn:Int),.slice a es.length c])]) (fun i=>es.length - i) 0 rfl ?_ ?_ ?_)))))))))
    ·exact ⟨rfl,trivial⟩
    ·exact ⟨Nat.zero_le _,H⟩
    ·clear H
     rintro i j7 w ⟨hi,H⟩
     refine An (Af (Ad rfl rfl (Aj rfl rfl (AV rfl AO rfl (AZ rfl rfl rfl (Ab (Aa (Aq _ rfl ?_ ?_))))))))
     ·intro g3
      replace g3:=AF g3
      obtain ⟨e,he⟩:=A0 (l:=es) (i:=i) (by omega)
      obtain ⟨y,hy⟩:=A0 (l:=fl) (i:=i) (by omega)
      have hxi:x i=y:=by rw [hx]; exact Bn hy
      obtain ⟨hf0,hfN,ht0,htN,-⟩:=D6 (hall e (List.mem_of_getElem? he))
      have hgf:g.f i=e.f.toNat:=by rw [hg]; exact Nl he
      have hgt:g.t i=e.t.toNat:=by rw [hg]; exact Nm he
      have hbi:=GS (g:=g) (x:=x) (c:=4503599627370496) v (k:=i) fun j hj=>hxb j (by omega)
      have hyb:=hxb i (by omega)
      rw [hxi] at hyb
      obtain ⟨z,hz⟩:∃ z,z=Ee g x i v+if e.t=(v:Int) then y else 0:=⟨_,rfl⟩
      have hzb : -(300*4503599627370496)≤z∧z≤300*4503599627370496:=by
       rw [hz]; split <;> omega
      have hst:Ee g x (i+1) v=z - if e.f=(v:Int) then y else 0:=by
       rw [G8,hgf,hgt,hxi,hz]
       by_cases h1:e.t=(v:Int)
       ·rw [ET (show e.t.toNat=v by omega),if_pos h1]
        by_cases h2:e.f=(v:Int)
        ·rw [ET (show e.f.toNat=v by omega),if_pos h2]; omega
        ·rw [EB (show ¬ e.f.toNat=v by omega),if_neg h2]; omega
       ·rw [EB (show ¬ e.t.toNat=v by omega),if_neg h1]
        by_cases h2:e.f=(v:Int)
        ·rw [ET (show e.f.toNat=v by omega),if_pos h2]; omega
        ·rw [EB (show ¬ e.f.toNat=v by omega),if_neg h2]; omega
      refine Ao (Aa (An (Au (An (Af (Ah rfl Cc rfl (AN rfl Dh rfl H at1 rfl (Ad rfl rfl (AK R rfl C0 CC rfl rfl (by omega) (by omega) (by rfl) ?_)))))))))
      refine Ah rfl EZ rfl (Bb rfl BV rfl (((R.ext0 H.ext).fld he rfl (j:=1) rfl)) ?_)
      refine Ad rfl rfl (Cu rfl rfl rfl (Ab (Aa (EI 140703128616960 (α:=Unit) (fun _=>[]) (fun _ w'=>Ctx w0 [] w' [(b14,Bl 2 (BE (fun q=>if q=v then z else ovI g x v i q) nn)),(b2,Bl 28 [.int .i64 (nn:Int),.slice a es.length c])]) rfl ?_ ?_))))
      ·skip
       refine Aq _ rfl ?_ ?_
       ·intro g4
        replace g4:=AF g4
        refine EM 12 B0 (by kernel_rfl) rfl rfl ?_
        refine Bx rfl rfl (AP rfl rfl (Bx rfl rfl (AP rfl rfl (AY rfl AO Bu rfl rfl (by omega) (by omega) ?_))))
        refine Tj v _ rfl Bt rfl (by rintro _ rfl; exact H.drew) at0 (by simp) (by omega) (congrArg (Value.int .i64) (PF g x v i)) ?_
        refine Bx rfl rfl (AP rfl rfl (Bs Rf rfl AO Bu rfl rfl (by omega) (by omega) (by rfl) ?_))
        refine BR rfl Bt rfl (by rintro _ rfl; exact (((Rf.ext0 H.drew.ext).fld hy rfl (j:=0) rfl))) ?_
        refine C7 rfl rfl rfl (by omega) (by omega) ?_
        refine AY rfl AO Bu rfl rfl (by omega) (by omega) ?_
        refine BJ ?_
        replace H:=H.drew
        refine BU v (fun q => .int .i64 (if q=v then z else ovI g x v i q)) (.int _ _) rfl Bu rfl rfl rfl H at0 (by simp) (by omega) (by rw [if_pos rfl,hz,if_pos g4]) (fun q _ hq=>by rw [if_neg hq]) ?_
        rintro w H
        refine Ab (Aa ?_)
        exact ⟨(),rfl,trivial,H⟩
       ·intro g4
        replace g4:=AG g4
        refine Ao (Aa ?_)
        refine ⟨(),rfl,trivial,?_⟩
        rw [show BE (fun q=>if q=v then z else ovI g x v i q) nn=BE (ovI g x v i) nn from List.map_congr_left fun q _=>by
         dsimp only
         split
         ·rename_i h; subst h; rw [PF,hz,if_neg g4,Int.add_zero]
         ·rfl]
        exact H
      ·rintro - j34 w H
       refine Af (Ah rfl Cc rfl (AN rfl Dh rfl H at1 rfl (Ad rfl rfl (AK R rfl C0 CC rfl rfl (by omega) (by omega) (by rfl) ?_))))
       refine Ah rfl EY rfl (Bb rfl BV rfl (((R.ext0 H.ext).fld he rfl (j:=0) rfl)) ?_)
       refine Ad rfl rfl (Cu rfl rfl rfl (Ab (Aa (Aq _ rfl ?_ ?_))))
       ·intro g5
        replace g5:=AF g5
        refine EM 12 B0 (by kernel_rfl) rfl rfl ?_
        refine Bx rfl rfl (AP rfl rfl (Bx rfl rfl (AP rfl rfl (AY rfl AO Bu rfl rfl (by omega) (by omega) ?_))))
        refine Tj v _ rfl Bt rfl (by rintro _ rfl; exact H.drew) at0 (by simp) (by omega) (congrArg (Value.int .i64) (if_pos rfl)) ?_
        refine Bx rfl rfl (AP rfl rfl (Bs Rf rfl AO Bu rfl rfl (by omega) (by omega) (by rfl) ?_))
        refine BR rfl Bt rfl (by rintro _ rfl; exact (((Rf.ext0 H.drew.ext).fld hy rfl (j:=0) rfl))) ?_
        refine Dq rfl rfl rfl (by omega) (by omega) ?_
        refine AY rfl AO Bu rfl rfl (by omega) (by omega) ?_
        refine BJ ?_
        replace H:=H.drew
        refine BU v (fun q => .int .i64 (ovI g x v (i+1) q)) (.int _ _) rfl Bu rfl rfl rfl H at0 (by simp) (by omega) (by rw [PF,hst,if_pos g5]) (fun q _ hq=>by dsimp only; rw [if_neg hq,Xp g x v (i+1) i hq]) ?_
        rintro w H
        refine Ab (A5 (Aa (Av (Ad rfl rfl (Ap rfl rfl rfl (by omega) (by omega) ?_)))))
        refine Ae rfl rfl (Ab (Aa ?_))
        exact ⟨i+1,rfl,⟨rfl,trivial⟩,⟨by omega,H⟩,by omega⟩
       ·intro g5
        replace g5:=AG g5
        refine Ao (A5 (Aa (Av (Ad rfl rfl (Ap rfl rfl rfl (by omega) (by omega) ?_)))))
        refine Ae rfl rfl (Ab (Aa ?_))
        refine ⟨i+1,rfl,⟨rfl,trivial⟩,⟨by omega,?_⟩,by omega⟩
        rw [show BE (ovI g x v (i+1)) nn=BE (fun q=>if q=v then z else ovI g x v i q) nn from List.map_congr_left fun q _=>by
         dsimp only
         split
         ·rename_i h; subst h; rw [PF,hst,if_neg g5,Int.sub_zero]
         ·rename_i h; rw [Xp g x v (i+1) i h]]
        exact H
     ·intro g3
      replace g3:=AG g3
      refine Bc (Ak (Ak (AD (A5 (Aa (Av (Ad rfl rfl (Ap rfl rfl rfl (by omega) (by omega) ?_))))))))
      refine Ae rfl rfl (Ab (Aa ?_))
      obtain rfl:i=es.length:=by omega
      refine ⟨v+1,rfl,⟨rfl,trivial⟩,⟨by omega,?_⟩,by omega⟩
      rw [show BE (ovI g x (v+1) 0) nn=BE (ovI g x v es.length) nn from List.map_congr_left fun q _=>by rw [← YG,hgE]]
      exact H
   ·intro g2
    replace g2:=AG g2
    refine Bc (Ak (Ak (AD (Aa (Af (Aj rfl rfl (Az rfl rfl (Ab (Aa (A8 (AB (v:=(.slice _ _ _)) rfl rfl rfl ?_)))))))))))
    obtain rfl:v=nn:=by omega
    rw [show BE (ovI g x v 0) v=BE (BA g x) v from List.map_congr_left fun q hq=>by
     rw [List.mem_range] at hq
     unfold ovI
     rw [if_pos hq]] at H
    exact ⟨b14,rfl,H.left (L:=[_]) (L':=[_])⟩
set_option maxRecDepth 20000 in
set_option maxHeartbeats 2000000 in
theorem QY (N:Int) (a b:Option Addr) (n c m d:Nat) (es:List Ed) (fl:List Int) (w:World) (R:Rd w a 4 Cw es) (hn:es.length=n) (hn2:n≤1000000) (Rf:Rd w b 1 I1 fl) (hm:fl.length=m) (hm2:m≤1000000) :
  Ret Tryz.prog 64 #[CS N a n c,.slice b m d] w fun v w'=>v = .bool (Es N es fl)∧Ext [] w w':=by
 subst hn hm
 obtain ⟨w0,rfl⟩:∃ w0,w0=w:=⟨_,rfl⟩
 have H:=Ctx.start w0 []
 obtain ⟨bw,hbw⟩:∃ bw,bw=BG N es fl:=⟨_,rfl⟩
 refine A9 (fn:=Tryz.f64) Tryz.func64 rfl [CS N a es.length c,.slice b fl.length d] rfl (by kernel_rfl) ?_
 refine Af (BC rfl [.int .i64 N,.slice a es.length c] (.agg _) rfl rfl H ?_)
 rintro b2 w - H
 refine Ai rfl rfl (Ab (Aa (An (Af (B6 rfl Cm BQ rfl H at0 rfl (Aj rfl rfl (Am rfl Sb (IB N a b es.length c fl.length d es fl _ (R.ext0 H.ext) rfl hn2 (Rf.ext0 H.ext) rfl hm2) rfl ?_)))))))
 rintro v w ⟨rfl,hx9⟩
 replace H:=H.call hx9
 rw [← hbw]
 refine B1 rfl rfl (Ab (Aa (Aq _ rfl ?_ ?_)))
 ·intro h1
  replace h1:=Bv h1
  refine Af (Ai rfl rfl (Ab (Aa (A8 (Al (AB (v:=(.bool _)) rfl rfl rfl ?_))))))
  exact ⟨congrArg Value.bool (by unfold Es; rw [← hbw,show bw=false by simpa using h1]; rfl),H.ext⟩
 ·intro h1
  replace h1:=Bw h1
  have h1':bw=true:=by simpa using h1
  have hw:BG N es fl=true:=by rw [← hbw]; exact h1'
  have hf:Es N es fl=(JR N es fl).all fun x=>decide (x=0):=by unfold Es; rw [hw]; rfl
  obtain ⟨h40a,h40,-⟩:=Cn (BZ hw).2.1
  obtain ⟨nn,hnn⟩:∃ nn:Nat,N=(nn:Int):=⟨N.toNat,by omega⟩
  have hov:JR N es fl=tab (BA (grE N es) (flE fl)) nn:=by rw [hnn]; rfl
  refine Ao (Aa (Af (B6 rfl Cm BQ rfl H at0 rfl (Aj rfl rfl (Am rfl ZD (SF N a b es.length c fl.length d es fl _ (R.ext0 H.ext) rfl hn2 (Rf.ext0 H.ext) rfl hm2 hw) rfl ?_)))))
  rintro v w ⟨b',rfl,H13⟩
  replace H:=Ctx.back (L1:=[]) (L2:=[_]) H H13
  rw [show N.toNat=nn by omega] at H ⊢
  refine Az rfl rfl (Ab (Aa (An (Af (Ae rfl rfl (Ab (Aa (Au ?_))))))))
  obtain ⟨z,hz⟩:∃ z,z=BA (grE N es) (flE fl):=⟨_,rfl⟩
  rw [hf,hov,← hz]
  rw [← hz] at H
  have RT:Rd w (some ⟨b',0,none⟩) 1 I1 (tab z nn):=Cs (H.get at0)
  obtain ⟨w1,rfl⟩:∃ q,q=w:=⟨_,rfl⟩
  have hx1:=H.ext
  have H:=Ctx.start w1 []
  refine Bf 33538128 (α:=Nat) (fun i=>[(6,.int .i64 (i:Int))]) (fun i w'=>i≤nn∧Ctx w1 [] w' []∧∀ k,k<i→z k=0) (fun i=>nn - i) 0 rfl ?_ ?_ ?_
  ·exact ⟨rfl,trivial⟩
  ·exact ⟨Nat.zero_le _,H,fun k h=>absurd h (Nat.not_lt_zero _)⟩
  ·clear H
   rintro i j w ⟨hi,H,hb⟩
   refine An (Af (Ad rfl rfl (Aj rfl rfl (AV rfl AO rfl (AZ rfl rfl rfl (Ab (Aa (Aq _ rfl ?_ ?_))))))))
   ·intro h2
    replace h2:=AF h2
    refine Ao (Aa (An (Au (Af (Aj rfl rfl (Ad rfl rfl (Bg rfl AO Bu rfl rfl (by omega) (by omega) ?_)))))))
    refine Bb rfl Bt rfl (((RT.ext0 H.ext).fld (BN (f:=z) (show i<nn by omega)) rfl (j:=0) rfl)) ?_
    refine Cp rfl rfl rfl (Ab (Aa (Aq _ rfl ?_ ?_)))
    ·intro h3
     replace h3:=CY h3
     refine Af (Ai rfl rfl (Ab (Aa (A8 (A1 (Al (Al (A1 (Al (AB (v:=(.bool _)) rfl rfl rfl ?_))))))))))
     exact ⟨congrArg Value.bool (C9 (BN (f:=z) (show i<nn by omega)) (decide_eq_false h3)).symm,hx1.trans H.ext⟩
    ·intro h3
     replace h3:=CZ h3
     refine Ao (A5 (Aa (Av (Ad rfl rfl (Ap rfl rfl rfl (by omega) (by omega) ?_)))))
     refine Ae rfl rfl (Ab (Aa ?_))
     refine ⟨i+1,rfl,⟨rfl,trivial⟩,⟨by omega,H,fun k hk=>?_⟩,by omega⟩
     rcases Nat.lt_or_ge k i with h7 | h7
     ·exact hb k h7
     ·obtain rfl:k=i:=by omega
      exact h3
   ·intro h2
    replace h2:=AG h2
    refine Bc (Ak (Ak (AD (Aa (Af (Ai rfl rfl (Ab (Aa (A8 (AB (v:=(.bool _)) rfl rfl rfl ?_))))))))))
    have hin:i=nn:=by omega
    refine ⟨congrArg Value.bool (CV fun k x hk hx=>?_).symm,hx1.trans H.ext⟩
    obtain ⟨h7,rfl⟩:=Li hx
    exact decide_eq_true (hb k (by omega))
end Go.Proofs.YtapphbmlkdhnmaaGreat

/- Arcs, and whether what flows is the best, as the reference has them. -/
namespace Go.Proofs.YtapphbmlkdhnmaaGreat
open Go.GV
attribute [local irreducible] AL W Wq Wt

theorem OM (N:Int) (a:Option Addr) (n c:Nat) (es:List Ed) (hn:es.length=n) (hb:n≤1000000) (k:Int) (w:World):Ret Tryz.prog 176 #[CS N a n c,.int .i64 k] w fun v w'=>v = .bool (HS es k)∧Ext [] w w':=by
 subst hn
 obtain ⟨w0,rfl⟩:∃ w0,w0=w:=⟨_,rfl⟩
 have H:=Ctx.start w0 []
 refine A9 (fn:=Tryz.f176) Tryz.func176 rfl [CS N a es.length c,.int .i64 k] rfl (by kernel_rfl) ?_
 refine Af (BC rfl [.int .i64 N,.slice a es.length c] (.agg _) rfl rfl H ?_)
 rintro b2 w - H
 refine Ai rfl rfl (Ab (Aa (Af (Ad rfl rfl (Cx rfl rfl rfl (Aw rfl rfl (AE 7 rfl ?_ ?_)))))))
 ·intro h1
  replace h1:=AF h1
  refine Ad rfl rfl (Ah rfl Cc rfl (AN rfl Dh rfl H at0 rfl (AV rfl C0 rfl (Dd rfl rfl rfl (by omega) (by omega) ?_))))
  refine AZ rfl rfl rfl (AA rfl rfl (.bool _) rfl (Ai rfl rfl (Ab (Aa (A8 (AB (v:=(.bool _)) rfl rfl rfl ?_))))))
  exact ⟨congrArg Value.bool (by unfold HS; rw [Bool.eq_iff_iff]; simp_all; try omega),H.ext⟩
 ·intro h2
  replace h2:=AG h2
  refine Ag rfl (Ag rfl (Ag rfl (Ag rfl (Ag rfl (Ag rfl (A6 rfl rfl (.bool _) rfl (Ai rfl rfl (Ab (Aa (A8 (AB (v:=(.bool _)) rfl rfl rfl ?_)))))))))))
  exact ⟨congrArg Value.bool (by unfold HS; rw [Bool.eq_iff_iff]; simp_all; try omega),H.ext⟩
theorem Xq {es:List Ed} {k:Nat} (h:k<2*es.length):HS es (k:Int)=true:=by unfold HS; simp; omega
set_option maxRecDepth 20000 in
set_option maxHeartbeats 2000000 in
theorem SG (N:Int) (a:Option Addr) (n c:Nat) (es:List Ed) (w:World) (R:Rd w a 4 Cw es) (hn:es.length=n) (hb:n≤1000000) (k:Nat) {e:Ed} (he:es[k / 2]? = some e) (hr:Cb N es=true):Ret Tryz.prog 177 #[CS N a n c,.int .i64 (k:Int)] w fun v w'=>v = .tuple #[.int .i64 (Fj e k).1,.int .i64 (Fj e k).2.1,.int .i64 (Fj e k).2.2]∧Ext [] w w':=by
 subst hn
 obtain ⟨w0,rfl⟩:∃ w0,w0=w:=⟨_,rfl⟩
 have H:=Ctx.start w0 []
 have hk:=Cr he
 have hco:=D6 ((Cn hr).2.2.2.1 e (List.mem_of_getElem? he))
 refine A9 (fn:=Tryz.f177) Tryz.func177 rfl [CS N a es.length c,.int .i64 (k:Int)] rfl (by kernel_rfl) ?_
 refine Af (BC rfl [.int .i64 N,.slice a es.length c] (.agg _) rfl rfl H ?_)
 rintro b2 w - H
 refine Ae rfl rfl (Ae rfl rfl (Ae rfl rfl (Ab (Aa (An (Af (BD (α:=Unit) 130816 (fun _=>[(16,.bool (false))]) (fun _ w'=>Ctx w0 [] w' [(b2,Bl 28 [.int .i64 N,.slice a es.length c])]) rfl ?_ ?_)))))))
 ·refine B6 rfl Cm BQ rfl H at0 rfl (Am rfl Tw (Hv N a es.length c es _ (R.ext0 H.ext) rfl hb) rfl ?_)
  rintro v w ⟨rfl,hx9⟩
  replace H:=H.call hx9
  rw [hr]
  refine B1 rfl rfl (Aw rfl rfl (AE 11 rfl ?_ ?_))
  ·intro h1
   replace h1:=Bv h1
   refine Ag rfl (Ag rfl (Ag rfl (Ag rfl (AA rfl rfl (.bool _) rfl (Ab ?_)))))
   exact ⟨rfl,(),rfl,⟨congrArg Value.bool (by simp_all),trivial⟩,H⟩
  ·intro h2
   replace h2:=Bw h2
   refine B6 rfl Cm BQ rfl H at0 rfl (Ad rfl rfl (Am rfl VF (OM N a es.length c es rfl hb (k:Int) _) rfl ?_))
   rintro v w ⟨rfl,hx14⟩
   replace H:=H.call hx14
   rw [Xq (by omega)]
   refine B1 rfl rfl (A6 rfl rfl (.bool _) rfl (Ab ?_))
   exact ⟨rfl,(),rfl,⟨congrArg Value.bool (by rfl),trivial⟩,H⟩
 rintro - j16 w H
 refine CJ rfl (Ao (Aa (Af (Ah rfl Cc rfl (AN rfl Dh rfl H at0 rfl (Ad rfl rfl (Hw rfl rfl rfl (by omega) (by omega) (show _≤(9223372036854775807:Int) by omega) ?_)))))))
 rw [show (k:Int) / 2=((k / 2:Nat):Int) by omega]
 refine AK R rfl C0 CC rfl rfl (by omega) (by omega) (by rfl) ?_
 refine Cv _ rfl Ho CC rfl rfl ((R.ext0 H.ext).row he rfl) ?_
 refine Bj rfl Fd H ?_
 rintro b7 w - H
 refine B5 rfl CC rfl rfl rfl (by exact ES _) H at0 rfl ?_
 rintro w H
 refine Ab (Aa (An (Af (Ad rfl rfl (Vk rfl rfl rfl (by omega) (by omega) ?_)))))
 rw [show (k:Int) % 2=((k % 2:Nat):Int) by omega]
 refine Cu rfl rfl rfl (Ab (Aa (Aq _ rfl ?_ ?_)))
 ·intro h1
  replace h1:=AF h1
  refine DE (fun x=>x=_) B0 (by kernel_rfl) rfl ?_
  refine A7 rfl EY rfl (Cd rfl BV rfl (by rintro _ rfl; exact H.drew) at0 rfl ?_)
  refine A7 rfl EZ rfl (Cd rfl BV rfl (by rintro _ rfl; exact H.drew) at0 rfl ?_)
  refine A7 rfl EK rfl (Cd rfl Bt rfl (by rintro _ rfl; exact H.drew) at0 rfl ?_)
  refine C8 rfl rfl (C8 rfl rfl (C8 rfl rfl (BJ ?_)))
  rintro _ rfl
  replace H:=H.drew
  refine A8 (Al (IW (v1:=(.int _ _)) (v2:=(.int _ _)) (v3:=(.int _ _)) rfl rfl rfl rfl rfl ?_))
  exact ⟨by unfold Fj; rw [if_neg (by omega)],H.ext⟩
 ·intro h1
  replace h1:=AG h1
  refine Ao (Aa (DE (fun x=>x=_) B0 (by kernel_rfl) rfl ?_))
  refine A7 rfl EZ rfl (Cd rfl BV rfl (by rintro _ rfl; exact H.drew) at0 rfl ?_)
  refine A7 rfl EY rfl (Cd rfl BV rfl (by rintro _ rfl; exact H.drew) at0 rfl ?_)
  refine A7 rfl EK rfl (Cd rfl Bt rfl (by rintro _ rfl; exact H.drew) at0 rfl ?_)
  refine NK rfl rfl (by omega) (by omega) ?_
  refine C8 rfl rfl (C8 rfl rfl (C8 rfl rfl (BJ ?_)))
  rintro _ rfl
  replace H:=H.drew
  refine A8 (IW (v1:=(.int _ _)) (v2:=(.int _ _)) (v3:=(.int _ _)) rfl rfl rfl rfl rfl ?_)
  exact ⟨by unfold Fj; rw [if_pos (by omega)],H.ext⟩
set_option maxRecDepth 20000 in
set_option maxHeartbeats 2000000 in
theorem SH (N:Int) (a b:Option Addr) (n c m d:Nat) (es:List Ed) (fl:List Int) (w:World) (R:Rd w a 4 Cw es) (hn:es.length=n) (hb:n≤1000000) (Rf:Rd w b 1 I1 fl) (hm:fl.length=m) (k:Nat) {e:Ed} {x:Int} (he:es[k / 2]? = some e) (hx:fl[k / 2]? = some x) (hw:BG N es fl=true) :
  Ret Tryz.prog 127 #[CS N a n c,.slice b m d,.int .i64 (k:Int)] w fun v w'=>v = .int .i64 (Jp e x k)∧Ext [] w w':=by
 subst hn hm
 obtain ⟨w0,rfl⟩:∃ w0,w0=w:=⟨_,rfl⟩
 have H:=Ctx.start w0 []
 have hk:=Cr he
 obtain ⟨hl,hr,hin⟩:=BZ hw
 have hco:=D6 ((Cn hr).2.2.2.1 e (List.mem_of_getElem? he))
 have hxx:=hin _ e x he hx
 refine A9 (fn:=Tryz.f127) Tryz.func127 rfl [CS N a es.length c,.slice b fl.length d,.int .i64 (k:Int)] rfl (by kernel_rfl) ?_
 refine Af (BC rfl [.int .i64 N,.slice a es.length c] (.agg _) rfl rfl H ?_)
 rintro b3 w - H
 refine Ae rfl rfl (Ab (Aa (An (Af (BD (α:=Unit) 130944 (fun _=>[(16,.bool (false))]) (fun _ w'=>Ctx w0 [] w' [(b3,Bl 28 [.int .i64 N,.slice a es.length c])]) rfl ?_ ?_)))))
 ·refine B6 rfl Cm BQ rfl H at0 rfl (Aj rfl rfl (Am rfl Sb (IB N a b es.length c fl.length d es fl _ (R.ext0 H.ext) rfl hb (Rf.ext0 H.ext) rfl (by omega)) rfl ?_))
  rintro v w ⟨rfl,hx9⟩
  replace H:=H.call hx9
  rw [hw]
  refine B1 rfl rfl (Aw rfl rfl (AE 11 rfl ?_ ?_))
  ·intro h1
   replace h1:=Bv h1
   refine Ag rfl (Ag rfl (Ag rfl (Ag rfl (AA rfl rfl (.bool _) rfl (Ab ?_)))))
   exact ⟨rfl,(),rfl,⟨congrArg Value.bool (by simp_all),trivial⟩,H⟩
  ·intro h2
   replace h2:=Bw h2
   refine B6 rfl Cm BQ rfl H at0 rfl (Ad rfl rfl (Am rfl VF (OM N a es.length c es rfl hb (k:Int) _) rfl ?_))
   rintro v w ⟨rfl,hx14⟩
   replace H:=H.call hx14
   rw [Xq (by omega)]
   refine B1 rfl rfl (A6 rfl rfl (.bool _) rfl (Ab ?_))
   exact ⟨rfl,(),rfl,⟨congrArg Value.bool (by rfl),trivial⟩,H⟩
 rintro - j16 w H
 refine CJ rfl (Ao (Aa (An (Af (Ad rfl rfl (Vk rfl rfl rfl (by omega) (by omega) ?_))))))
 rw [show (k:Int) % 2=((k % 2:Nat):Int) by omega]
 refine Cu rfl rfl rfl (Ab (Aa (Aq _ rfl ?_ ?_)))
 ·intro h1
  replace h1:=AF h1
  refine DE (fun x=>x=_) B0 (by kernel_rfl) rfl ?_
  refine A7 rfl Cc rfl (Cd rfl Dh rfl (by rintro _ rfl; exact H.drew) at0 rfl ?_)
  refine AP rfl rfl (YR rfl rfl rfl (by omega) (by omega) (show _≤(9223372036854775807:Int) by omega) ?_)
  rw [show (k:Int) / 2=((k / 2:Nat):Int) by omega]
  refine Bs R rfl C0 CC rfl rfl (by omega) (by omega) (by rfl) ?_
  refine A7 rfl DP rfl (BR rfl Bt rfl (by rintro _ rfl; exact (((R.ext0 H.drew.ext).fld he rfl (j:=2) rfl))) ?_)
  refine Bx rfl rfl (AP rfl rfl (YR rfl rfl rfl (by omega) (by omega) (show _≤(9223372036854775807:Int) by omega) ?_))
  rw [show (k:Int) / 2=((k / 2:Nat):Int) by omega]
  refine Bs Rf rfl AO Bu rfl rfl (by omega) (by omega) (by rfl) ?_
  refine BR rfl Bt rfl (by rintro _ rfl; exact (((Rf.ext0 H.drew.ext).fld hx rfl (j:=0) rfl))) ?_
  refine Dq rfl rfl rfl (by omega) (by omega) ?_
  refine C8 rfl rfl (BJ ?_)
  rintro _ rfl
  replace H:=H.drew
  refine A8 (Al (AB (v:=(.int _ _)) rfl rfl rfl ?_))
  exact ⟨by unfold Jp; rw [if_neg (by omega)],H.ext⟩
 ·intro h1
  replace h1:=AG h1
  refine Ao (Aa (Af (Aj rfl rfl (Ad rfl rfl (Hw rfl rfl rfl (by omega) (by omega) (show _≤(9223372036854775807:Int) by omega) ?_)))))
  rw [show (k:Int) / 2=((k / 2:Nat):Int) by omega]
  refine AK Rf rfl AO Bu rfl rfl (by omega) (by omega) (by rfl) ?_
  refine Bb rfl Bt rfl (((Rf.ext0 H.drew.ext).fld hx rfl (j:=0) rfl)) ?_
  refine Ae rfl rfl (Ab (Aa (A8 (AB (v:=(.int _ _)) rfl rfl rfl ?_))))
  exact ⟨by unfold Jp; rw [if_pos (by omega)],H.ext⟩
set_option maxRecDepth 20000 in
set_option maxHeartbeats 2000000 in
theorem UZ (N:Int) (a p:Option Addr) (n c q r:Nat) (es:List Ed) (pot:List Int) (w:World) (R:Rd w a 4 Cw es) (hn:es.length=n) (hb:n≤1000000) (Rp:Rd w p 1 I1 pot) (hq:pot.length=q) (k:Nat) (hk:k<2*es.length) (hr:Cb N es=true) (hp:EU N pot=true) :
  Ret Tryz.prog 128 #[CS N a n c,.slice p q r,.int .i64 (k:Int)] w fun v w'=>v = .int .i64 (Q4 N es pot (k:Int))∧Ext [] w w':=by
 subst hn hq
 obtain ⟨w0,rfl⟩:∃ w0,w0=w:=⟨_,rfl⟩
 have H:=Ctx.start w0 []
 obtain ⟨hN1,hN40,hn200,-⟩:=Cn hr
 obtain ⟨hpl,hpb⟩:=Lj hp
 obtain ⟨e,he,hE,q1,q2,q3,q4,q5,q6⟩:=Ma hr hk
 obtain ⟨un,hun⟩:∃ un:Nat,(Fj e k).1=un:=⟨(Fj e k).1.toNat,by omega⟩
 obtain ⟨vn,hvn⟩:∃ vn:Nat,(Fj e k).2.1=vn:=⟨(Fj e k).2.1.toNat,by omega⟩
 obtain ⟨pu,hpu⟩:=A0 (l:=pot) (i:=un) (by omega)
 obtain ⟨pv,hpv⟩:=A0 (l:=pot) (i:=vn) (by omega)
 have hbu:=hpb _ _ hpu
 have hbv:=hpb _ _ hpv
 have hli:Q4 N es pot (k:Int)=(Fj e k).2.2+pu - pv:=by
  unfold Q4
  rw [hE,hun,hvn,Int.toNat_natCast,Int.toNat_natCast,Bn hpu,Bn hpv]
 rw [hli]
 refine A9 (fn:=Tryz.f128) Tryz.func128 rfl [CS N a es.length c,.slice p pot.length r,.int .i64 (k:Int)] rfl (by kernel_rfl) ?_
 refine Af (BC rfl [.int .i64 N,.slice a es.length c] (.agg _) rfl rfl H ?_)
 rintro b3 w - H
 refine Ae rfl rfl (Ab (Aa (Af (B6 rfl Cm BQ rfl H at0 rfl (Ad rfl rfl (Am rfl Aai (SG N a es.length c es _ (R.ext0 H.ext) rfl hb k he hr) rfl ?_))))))
 rintro v w ⟨rfl,hx13⟩
 replace H:=H.call hx13
 rw [hun,hvn]
 refine B9 rfl rfl (A3 rfl rfl rfl (A3 rfl rfl rfl (A3 rfl rfl rfl (Ae rfl rfl (Ae rfl rfl (Ae rfl rfl (Ab (Aa (DE (fun x=>x=_) B0 (by kernel_rfl) rfl ?_)))))))))
 refine AP rfl rfl (Bx rfl rfl (AP rfl rfl (Bs Rp rfl AO Bu rfl rfl (by omega) (by omega) (by rfl) ?_)))
 refine BR rfl Bt rfl (by rintro _ rfl; exact (((Rp.ext0 H.drew.ext).fld hpu rfl (j:=0) rfl))) ?_
 refine C7 rfl rfl rfl (by omega) (by omega) ?_
 refine Bx rfl rfl (AP rfl rfl (Bs Rp rfl AO Bu rfl rfl (by omega) (by omega) (by rfl) ?_))
 refine BR rfl Bt rfl (by rintro _ rfl; exact (((Rp.ext0 H.drew.ext).fld hpv rfl (j:=0) rfl))) ?_
 refine Dq rfl rfl rfl (by omega) (by omega) ?_
 refine C8 rfl rfl (BJ ?_)
 rintro _ rfl
 replace H:=H.drew
 refine A8 (AB (v:=(.int _ _)) rfl rfl rfl ?_)
 exact ⟨rfl,H.ext⟩
set_option maxRecDepth 20000 in
set_option maxHeartbeats 4000000 in
theorem SJ (N:Int) (a b p:Option Addr) (n c m d q r:Nat) (es:List Ed) (fl pot:List Int) (w:World) (R:Rd w a 4 Cw es) (hn:es.length=n) (hn2:n≤1000000) (Rf:Rd w b 1 I1 fl) (hm:fl.length=m) (Rp:Rd w p 1 I1 pot) (hq:pot.length=q) (hq2:q≤1000000) (hw:BG N es fl=true) :
  Ret Tryz.prog 65 #[CS N a n c,.slice b m d,.slice p q r] w fun v w'=>v = .bool (EU N pot && Gs N es fl pot)∧Ext [] w w':=by
 subst hn hm hq
 obtain ⟨w0,rfl⟩:∃ w0,w0=w:=⟨_,rfl⟩
 have H:=Ctx.start w0 []
 obtain ⟨hfl,hr,hin⟩:=BZ hw
 obtain ⟨hN1,hN40,hn200,-⟩:=Cn hr
 refine A9 (fn:=Tryz.f65) Tryz.func65 rfl [CS N a es.length c,.slice b fl.length d,.slice p pot.length r] rfl (by kernel_rfl) ?_
 refine Af (BC rfl [.int .i64 N,.slice a es.length c] (.agg _) rfl rfl H ?_)
 rintro b3 w - H
 refine Ai rfl rfl (Ab (Aa (An (Af (BD (α:=Unit) 268434432 (fun _=>[(27,.bool (!decide ((pot.length:Int)=N)))]) (fun _ w'=>Ctx w0 [] w' [(b3,Bl 28 [.int .i64 N,.slice a es.length c])]) rfl ?_ ?_)))))
 ·refine B6 rfl Cm BQ rfl H at0 rfl (Am rfl Tw (Hv N a es.length c es _ (R.ext0 H.ext) rfl hn2) rfl ?_)
  rintro v w ⟨rfl,hx11⟩
  replace H:=H.call hx11
  rw [hr]
  refine B1 rfl rfl (Aw rfl rfl (AE 13 rfl ?_ ?_))
  ·intro h1
   replace h1:=Bv h1
   refine Ag rfl (Ag rfl (Ag rfl (Ag rfl (Ag rfl (Ag rfl (AA rfl rfl (.bool _) rfl (Aw rfl rfl (Ag rfl (Ag rfl ?_)))))))))
   refine Ag rfl (Ag rfl (Ag rfl (AA rfl rfl (.bool _) rfl (Ab ?_))))
   exact ⟨rfl,(),rfl,⟨congrArg Value.bool (by rw [Bool.eq_iff_iff] <;> simp_all <;> try omega),trivial⟩,H⟩
  ·intro h2
   replace h2:=Bw h2
   refine Aj rfl rfl (AV rfl AO rfl (Ah rfl Cc rfl (AN rfl Dh rfl H at0 rfl (AV rfl C0 rfl (Cp rfl rfl rfl (A6 rfl rfl (.bool _) rfl (Aw rfl rfl (AE 21 rfl ?_ ?_))))))))
   ·intro h3
    replace h3:=CY h3
    refine Ag rfl (Ag rfl (Ag rfl (Ag rfl (Ag rfl (AA rfl rfl (.bool _) rfl (Ab ?_))))))
    exact ⟨rfl,(),rfl,⟨congrArg Value.bool (by rw [Bool.eq_iff_iff] <;> simp_all <;> try omega),trivial⟩,H⟩
   ·intro h4
    replace h4:=CZ h4
    refine Aj rfl rfl (AV rfl AO rfl (Ah rfl D5 rfl (AN rfl BV rfl H at0 rfl (Cp rfl rfl rfl (A6 rfl rfl (.bool _) rfl (Ab ?_))))))
    exact ⟨rfl,(),rfl,⟨congrArg Value.bool (by rw [Bool.eq_iff_iff] <;> simp_all <;> try omega),trivial⟩,H⟩
 rintro - j27 w H
 refine Aq _ rfl ?_ ?_
 ·intro h1
  replace h1:=Bv h1
  refine Af (Ai rfl rfl (Ab (Aa (A8 (Al (AB (v:=(.bool _)) rfl rfl rfl ?_))))))
  exact ⟨congrArg Value.bool (by unfold EU; rw [show decide ((pot.length:Int)=N)=false by simpa using h1]; simp),H.ext⟩
 ·intro h1
  replace h1:=Bw h1
  have h1':(pot.length:Int)=N:=by simpa using h1
  refine Ao (Aa (An (Af (Ae rfl rfl (Ab (Aa (Au (Bf 4503599358935232 (α:=Nat) (fun i=>[(7,.int .i64 (i:Int))]) (fun i w'=>i≤fl.length∧Ctx w0 [] w' [(b3,Bl 28 [.int .i64 N,.slice a es.length c])]) (fun i=>fl.length - i) 0 rfl ?_ ?_ ?_))))))))
  ·exact ⟨rfl,trivial⟩
  ·exact ⟨Nat.zero_le _,H⟩
  ·clear H
   rintro i j w ⟨hi,H⟩
   refine An (Af (Ad rfl rfl (Aj rfl rfl (AV rfl AO rfl (AZ rfl rfl rfl (Ab (Aa (Aq _ rfl ?_ ?_))))))))
   ·intro h2
    replace h2:=AF h2
    obtain ⟨e,he⟩:=A0 (l:=es) (i:=i) (by omega)
    obtain ⟨x,hxf⟩:=A0 (l:=fl) (i:=i) (by omega)
    have hxx:=hin _ e x he hxf
    refine Ao (Aa (An (Au (CP [([0,1,2,3,4,5,6,7,8,9,10,11,12,13,14,15,16],17)] (fun z=>Ext [] w0 z∧z.heap[b3]? = some (Bl 28 [.int .i64 N,.slice a es.length c])) [] B0 (by kernel_rfl) (⟨H.drew.ext,H.drew.get at0⟩) ?_))))
    refine AU rfl rfl ?_
    refine Bi rfl rfl (AS rfl rfl (BT Rf rfl AO Bu rfl rfl (by omega) (by omega) (by rfl) ?_))
    refine BP rfl Bt rfl (fun _ hx=>((Rf.ext0 hx.1).fld hxf rfl (j:=0) rfl)) ?_
    refine Tl rfl rfl rfl (CU rfl rfl (GI 39 rfl ?_ ?_))
    ·intro g1
     replace g1:=AF g1
     omega
    ·intro g1
     replace g1:=AG g1
     refine Bi rfl rfl (AS rfl rfl (BT Rf rfl AO Bu rfl rfl (by omega) (by omega) (by rfl) ?_))
     refine BP rfl Bt rfl (fun _ hx=>((Rf.ext0 hx.1).fld hxf rfl (j:=0) rfl)) ?_
     refine AH rfl Cc rfl (BP rfl Dh rfl (fun _ hx=>(by rw [Ay (hx.2)]; rfl)) ?_)
     refine AS rfl rfl (BT R rfl C0 CC rfl rfl (by omega) (by omega) (by rfl) ?_)
     refine AH rfl DP rfl (BP rfl Bt rfl (fun _ hx=>((R.ext0 hx.1).fld he rfl (j:=2) rfl)) ?_)
     refine Vq rfl rfl rfl (Ba ?_)
     replace H:=H.drew
     refine A6 rfl rfl (.bool _) rfl (Ab (BL (⟨H.ext,H.get at0⟩) (BO (Aq _ rfl ?_ ?_))))
     ·intro g2
      replace g2:=AF g2
      omega
     ·intro g2
      replace g2:=AG g2
      refine Ao (A5 (Aa (Av (Ad rfl rfl (Ap rfl rfl rfl (by omega) (by omega) ?_)))))
      refine Ae rfl rfl (Ab (Aa ?_))
      exact ⟨i+1,rfl,⟨rfl,trivial⟩,⟨by omega,H⟩,by omega⟩
   ·intro h2
    replace h2:=AG h2
    refine Bc (Ak (Ak (AD (Aa (An (Af (Ae rfl rfl (Ab (Aa (Au (Bf 1180587117117783933248 (α:=Nat) (fun i=>[(8,.int .i64 (i:Int))]) (fun i w'=>i≤pot.length∧Ctx w0 [] w' [(b3,Bl 28 [.int .i64 N,.slice a es.length c])]∧∀ (k:Nat) (x:Int),k<i→pot[k]? = some x→JJ x=true) (fun i=>pot.length - i) 0 rfl ?_ ?_ ?_)))))))))))
    ·exact ⟨rfl,trivial⟩
    ·exact ⟨Nat.zero_le _,H,fun k x h=>absurd h (Nat.not_lt_zero _)⟩
    ·clear H
     rintro i8 j8 w ⟨hi8,H,hb⟩
     refine An (Af (Ad rfl rfl (Aj rfl rfl (AV rfl AO rfl (AZ rfl rfl rfl (Ab (Aa (Aq _ rfl ?_ ?_))))))))
     ·intro h3
      replace h3:=AF h3
      obtain ⟨x,hx⟩:=A0 (l:=pot) (i:=i8) (by omega)
      refine Ao (Aa (An (Au (Af (BD (α:=Unit) 1180303390341259591680 (fun _=>[(69,.bool (!JJ x))]) (fun _ w'=>Ctx w0 [] w' [(b3,Bl 28 [.int .i64 N,.slice a es.length c])]) rfl ?_ ?_)))))
      ·refine Aj rfl rfl (Ad rfl rfl (AK Rp rfl AO Bu rfl rfl (by omega) (by omega) (by rfl) ?_))
       refine Bb rfl Bt rfl (((Rp.ext0 H.ext).fld hx rfl (j:=0) rfl)) ?_
       refine Ck rfl rfl rfl (Aw rfl rfl (AE 63 rfl ?_ ?_))
       ·intro h5
        replace h5:=AF h5
        refine Ag rfl (Ag rfl (Ag rfl (Ag rfl (Ag rfl (AA rfl rfl (.bool _) rfl (Ab ?_))))))
        exact ⟨rfl,(),rfl,⟨congrArg Value.bool (by unfold JJ; rw [Bool.eq_iff_iff]; simp_all; try omega),trivial⟩,H⟩
       ·intro h6
        replace h6:=AG h6
        refine Aj rfl rfl (Ad rfl rfl (AK Rp rfl AO Bu rfl rfl (by omega) (by omega) (by rfl) ?_))
        refine Bb rfl Bt rfl (((Rp.ext0 H.ext).fld hx rfl (j:=0) rfl)) ?_
        refine AZ rfl rfl rfl (A6 rfl rfl (.bool _) rfl (Ab ?_))
        exact ⟨rfl,(),rfl,⟨congrArg Value.bool (by unfold JJ; rw [Bool.eq_iff_iff]; simp_all; try omega),trivial⟩,H⟩
      rintro - j69 w H
      refine Aq _ rfl ?_ ?_
      ·intro g1
       replace g1:=Bv g1
       refine Af (Ai rfl rfl (Ab (Aa (A8 (A1 (Al (Al (A1 (Al (AB (v:=(.bool _)) rfl rfl rfl ?_))))))))))
       exact ⟨congrArg Value.bool (by unfold EU; rw [C9 hx (by simpa using g1)]; rfl),H.ext⟩
      ·intro g1
       replace g1:=Bw g1
       refine Ao (A5 (Aa (Av (Ad rfl rfl (Ap rfl rfl rfl (by omega) (by omega) ?_)))))
       refine Ae rfl rfl (Ab (Aa ?_))
       exact ⟨i8+1,rfl,⟨rfl,trivial⟩,⟨by omega,H,Hb hx hb (by simpa using g1)⟩,by omega⟩
     ·intro h3
      replace h3:=AG h3
      have hp:EU N pot=true:=by
       unfold EU
       rw [CV fun k x hk hx=>hb k x (by omega) hx,decide_eq_true h1']; rfl
      rw [hp,Bool.true_and]
      refine Bc (Ak (Ak (AD (Aa (An (Af (Ae rfl rfl (Ab (Aa (Au (Bf 618968839051069420038259264 (α:=Nat) (fun i=>[(9,.int .i64 (i:Int))]) (fun i w'=>i≤2*es.length∧Ctx w0 [] w' [(b3,Bl 28 [.int .i64 N,.slice a es.length c])]∧∀ k,k<i→Ft N es fl pot k=true) (fun i=>2*es.length - i) 0 rfl ?_ ?_ ?_)))))))))))
      ·exact ⟨rfl,trivial⟩
      ·exact ⟨Nat.zero_le _,H,fun k h=>absurd h (Nat.not_lt_zero _)⟩
      ·clear H
       rintro i9 j9 w ⟨hi9,H,hb9⟩
       refine An (Af (Ad rfl rfl (Aj rfl rfl (AV rfl AO rfl (Dd rfl rfl rfl (by omega) (by omega) ?_)))))
       refine AZ rfl rfl rfl (Ab (Aa (Aq _ rfl ?_ ?_)))
       ·intro h4
        replace h4:=AF h4
        have hi2:i9<2*es.length:=by omega
        obtain ⟨e,x,he,hx,hro,r1,r2,r3⟩:=Mb hw hi2
        have hgo:Ft N es fl pot i9=true→∀ k,k<i9+1→Ft N es fl pot k=true:=fun h3 k hk=>by
         rcases Nat.lt_or_ge k i9 with h7 | h7
         ·exact hb9 k h7
         ·obtain rfl:k=i9:=by omega
          exact h3
        refine Ao (Aa (An (Au (Af (BD (α:=Unit) 618818903915238308802723840 (fun _=>[(88,.bool (!Ft N es fl pot i9))]) (fun _ w'=>Ctx w0 [] w' [(b3,Bl 28 [.int .i64 N,.slice a es.length c])]) rfl ?_ ?_)))))
        ·refine B6 rfl Cm BQ rfl H at0 rfl (Aj rfl rfl (Ad rfl rfl (Am rfl ZE (SH N a b es.length c fl.length d es fl _ (R.ext0 H.ext) rfl hn2 (Rf.ext0 H.ext) rfl i9 he hx hw) rfl ?_)))
         rintro v w ⟨rfl,hx80⟩
         replace H:=H.call hx80
         rw [← hro]
         refine Ck rfl rfl rfl (Aw rfl rfl (AE 82 rfl ?_ ?_))
         ·intro h7
          replace h7:=AF h7
          refine B6 rfl Cm BQ rfl H at0 rfl (Aj rfl rfl (Ad rfl rfl (Am rfl ZF (UZ N a p es.length c pot.length r es pot _ (R.ext0 H.ext) rfl hn2 (Rp.ext0 H.ext) rfl i9 hi2 hr hp) rfl ?_)))
          rintro v w ⟨rfl,hx86⟩
          replace H:=H.call hx86
          refine AZ rfl rfl rfl (AA rfl rfl (.bool _) rfl (Ab ?_))
          exact ⟨rfl,(),rfl,⟨congrArg Value.bool (by unfold Ft; rw [Bool.eq_iff_iff]; simp_all; try omega),trivial⟩,H⟩
         ·intro h8
          replace h8:=AG h8
          refine Ag rfl (Ag rfl (Ag rfl (Ag rfl (Ag rfl (A6 rfl rfl (.bool _) rfl (Ab ?_))))))
          exact ⟨rfl,(),rfl,⟨congrArg Value.bool (by unfold Ft; rw [Bool.eq_iff_iff]; simp_all; try omega),trivial⟩,H⟩
        rintro - j88 w H
        refine Aq _ rfl ?_ ?_
        ·intro g1
         replace g1:=Bv g1
         refine Af (Ai rfl rfl (Ab (Aa (A8 (A1 (Al (Al (A1 (Al (AB (v:=(.bool _)) rfl rfl rfl ?_))))))))))
         exact ⟨congrArg Value.bool (by unfold Gs; rw [C9 (List.getElem?_range hi2) (by simpa using g1)]),H.ext⟩
        ·intro g1
         replace g1:=Bw g1
         refine Ao (A5 (Aa (Av (Ad rfl rfl (Ap rfl rfl rfl (by omega) (by omega) ?_)))))
         refine Ae rfl rfl (Ab (Aa ?_))
         exact ⟨i9+1,rfl,⟨rfl,trivial⟩,⟨by omega,H,hgo (by simpa using g1)⟩,by omega⟩
       ·intro h4
        replace h4:=AG h4
        refine Bc (Ak (Ak (AD (Aa (Af (Ai rfl rfl (Ab (Aa (A8 (AB (v:=(.bool _)) rfl rfl rfl ?_))))))))))
        exact ⟨congrArg Value.bool (by unfold Gs; rw [List.all_eq_true.2 fun k hk=>hb9 k (by have:=List.mem_range.1 hk; omega)]),H.ext⟩
set_option maxRecDepth 20000 in
set_option maxHeartbeats 2000000 in
theorem LL (N:Int) (a b p:Option Addr) (n c m d q r:Nat) (es:List Ed) (fl pot:List Int) (w:World) (R:Rd w a 4 Cw es) (hn:es.length=n) (hn2:n≤1000000) (Rf:Rd w b 1 I1 fl) (hm:fl.length=m) (hm2:m≤1000000) (Rp:Rd w p 1 I1 pot) (hq:pot.length=q) (hq2:q≤1000000) :
  Ret Tryz.prog 20 #[CS N a n c,MT b p m d q r] w fun v w'=>v = .bool (Ff N es fl pot)∧Ext [] w w':=by
 subst hn hm hq
 obtain ⟨w0,rfl⟩:∃ w0,w0=w:=⟨_,rfl⟩
 have H:=Ctx.start w0 []
 obtain ⟨br,hbr⟩:∃ x,x=Cb N es:=⟨_,rfl⟩
 obtain ⟨bf,hbf⟩:∃ x,x=Es N es fl:=⟨_,rfl⟩
 obtain ⟨bp,hbp⟩:∃ x,x=(EU N pot && Gs N es fl pot):=⟨_,rfl⟩
 have hC:Ff N es fl pot=(br && (bf && bp)):=by rw [hbr,hbf,hbp]; rfl
 rw [hC]
 refine A9 (fn:=Tryz.f20) Tryz.func20 rfl [CS N a es.length c,MT b p fl.length d pot.length r] rfl (by kernel_rfl) ?_
 refine Af (BC rfl [.int .i64 N,.slice a es.length c] (.agg _) rfl rfl H ?_)
 rintro b2 w - H
 refine BC rfl [.slice b fl.length d,.slice p pot.length r] (.agg _) rfl rfl H ?_
 rintro b3 w - H
 refine Ai rfl rfl (Ab (Aa (Af (B6 rfl Cm BQ rfl H at1 rfl (Am rfl Tw (Hv N a es.length c es _ (R.ext0 H.ext) rfl hn2) rfl ?_)))))
 rintro v w ⟨rfl,hx6⟩
 replace H:=H.call hx6
 rw [← hbr]
 refine Aw rfl rfl (AE 7 rfl ?_ ?_)
 ·intro h1
  refine B6 rfl Cm BQ rfl H at1 rfl (Ah rfl FC rfl (AN rfl BX rfl H at0 rfl (Am rfl ca_64 (QY N a b es.length c fl.length d es fl _ (R.ext0 H.ext) rfl hn2 (Rf.ext0 H.ext) rfl hm2) rfl ?_)))
  rintro v w ⟨rfl,hx11⟩
  replace H:=H.call hx11
  rw [← hbf]
  refine AA rfl rfl (.bool _) rfl (Aw rfl rfl (AE 13 rfl ?_ ?_))
  ·intro h2
   refine B6 rfl Cm BQ rfl H at1 rfl (Ah rfl FC rfl (AN rfl BX rfl H at0 rfl (Ah rfl K6 rfl (AN rfl BX rfl H at0 rfl ?_))))
   have hwi:BG N es fl=true:=(Gj (by rw [← hbf]; simp_all)).1
   refine Am rfl ca_65 (SJ N a b p es.length c fl.length d pot.length r es fl pot _ (R.ext0 H.ext) rfl hn2 (Rf.ext0 H.ext) rfl (Rp.ext0 H.ext) rfl hq2 hwi) rfl ?_
   rintro v w ⟨rfl,hx19⟩
   replace H:=H.call hx19
   rw [← hbp]
   refine AA rfl rfl (.bool _) rfl (Ai rfl rfl (Ab (Aa (A8 (AB (v:=(.bool _)) rfl rfl rfl ?_)))))
   exact ⟨congrArg Value.bool (by simp_all),H.ext⟩
  ·intro h3
   refine Ag rfl (Ag rfl (Ag rfl (Ag rfl (Ag rfl (Ag rfl (A6 rfl rfl (.bool _) rfl (Ai rfl rfl (Ab (Aa (A8 (AB (v:=(.bool _)) rfl rfl rfl ?_)))))))))))
   exact ⟨congrArg Value.bool (by simp_all),H.ext⟩
 ·intro h4
  refine Ag rfl (Ag rfl (Ag rfl (Ag rfl (A6 rfl rfl (.bool _) rfl (Aw rfl rfl (Ag rfl (Ag rfl (Ag rfl (Ag rfl ?_)))))))))
  refine Ag rfl (Ag rfl (A6 rfl rfl (.bool _) rfl (Ai rfl rfl (Ab (Aa (A8 (AB (v:=(.bool _)) rfl rfl rfl ?_)))))))
  exact ⟨congrArg Value.bool (by simp_all),H.ext⟩
end Go.Proofs.YtapphbmlkdhnmaaGreat

/- A round's net, as the reference has it. -/
namespace Go.Proofs.YtapphbmlkdhnmaaGreat
open Go.GV
attribute [local irreducible] AL W Wq Wt

/-- Two slices that grow. -/
structure LS2 where
 i:Nat
 a:Option Addr
 c:Nat
 f:List Value
 a2:Option Addr
 c2:Nat
 f2:List Value
theorem Xr {rs:List Int} {i:Nat} {x:Int} (h:rs[i]? = some x):(IP rs).take (2*(i+1))=(IP rs).take (2*i)++[⟨rs.length,i,x,0⟩,⟨i,rs.length,4503599627370496,0⟩]:=by
 rw [show 2*(i+1)=2*i+1+1 by omega,List.take_add_one,List.take_add_one,Ic h,JF (Cr h),List.append_assoc]; rfl
theorem Va (rs:List Int) (os:List Du) (net:Bool) (i:Nat) (h1:net=true→i=0) (h2:¬ net=true→i=rs.length):os.map Fu++(IP rs).take (2*i)=BF rs os net:=by
 unfold BF
 congr 1
 split
 ·rename_i h; rw [h1 h]; rfl
 ·rename_i h; rw [h2 h,List.take_of_length_le (by rw [Mf]; omega)]
set_option maxRecDepth 20000 in
set_option maxHeartbeats 8000000 in
theorem F5 (a b:Option Addr) (n c m e:Nat) (rs:List Int) (ds:List Du) (net:Bool) (w:World) (R:Rd w a 1 I1 rs) (hn:rs.length=n) (hn2:n≤1000000) (Rd':Rd w b 7 Cf ds) (hm:ds.length=m) (hm2:m≤1000000) :
  Ret Tryz.prog 13 #[.slice a n c,.slice b m e,.bool net] w (RoundRes w rs ds net):=by
 subst hn hm
 obtain ⟨w0,rfl⟩:∃ w0,w0=w:=⟨_,rfl⟩
 have H:=Ctx.start w0 []
 obtain ⟨bb,hbb⟩:∃ bb,bb=CD rs ds:=⟨_,rfl⟩
 obtain ⟨os,hos⟩:∃ os,os=opn ds:=⟨_,rfl⟩
 have hol:os.length≤ds.length:=by rw [hos]; exact G4 ds
 refine A9 (fn:=Tryz.f13) Tryz.func13 rfl [.slice a rs.length c,.slice b ds.length e,.bool net] rfl (by kernel_rfl) ?_
 refine Af (Bj rfl FO H ?_)
 rintro b6 w - H
 refine Az rfl rfl (Ae rfl rfl (Ab (Aa (An (Af (Aj rfl rfl (Aj rfl rfl (Am rfl Zb (LK a b _ c _ e rs ds _ (R.ext0 H.ext) rfl hn2 (Rd'.ext0 H.ext) rfl hm2) rfl ?_))))))))
 rintro v w ⟨rfl,hx17⟩
 replace H:=H.call hx17
 rw [← hbb]
 refine B1 rfl rfl (Ab (Aa (Aq _ rfl ?_ ?_)))
 ·intro h1
  replace h1:=Bv h1
  refine Af (CE [.int .i64 0,.slice none 0 0] rfl VU FO (by kernel_rfl) ?_)
  refine B5 rfl BQ rfl rfl rfl (by simp [Bm]) H at0 rfl ?_
  rintro w H
  refine Az rfl rfl (Ae rfl rfl (Ab (Aa (A8 (Al (Pe rfl rfl rfl Cm BQ H at0 rfl (show _=(.slice _ _ _) from rfl) (show _=(.int _ _) from rfl) ?_))))))
  exact ⟨H.ext,.inl ⟨by rw [← hbb]; exact h1,rfl⟩⟩
 ·intro h1
  replace h1:=Bw h1
  refine Ao (Aa (Af (Aj rfl rfl (AV rfl AO rfl (Ae rfl rfl (Ab (Aa (Af (Ad rfl rfl (Ap rfl rfl rfl (by omega) (by omega) ?_))))))))))
  refine CE [.int .i64 ((rs.length:Int)+1),.slice none 0 0] rfl VU FO (by kernel_rfl) ?_
  refine Bj rfl FO H ?_
  rintro b10 w - H
  refine B5 rfl BQ rfl rfl rfl (by simp [Bm]) H at0 rfl ?_
  rintro w H
  refine Ab (Aa (Af (Az rfl rfl (Ab (Aa (Af (Aj rfl rfl (Am rfl Zc (Nj b _ e ds _ (Rd'.ext0 H.ext) rfl hm2) rfl ?_))))))))
  rintro v w F
  rw [← hos] at F
  obtain ⟨a4,n4,c4,f4,rfl,O4,hb4⟩:=F.ex
  have hl4:=O4.llen
  rw [Hd] at hl4
  obtain rfl:os.length=n4:=by omega
  refine Az rfl rfl (Ab (Aa (An ?_)))
  have hb6:=H.lt at1
  have hb10:=H.lt at0
  have RO:Rd w a4 7 Cf os:=OS.rd O4 (fun y hy=>(hb4 y hy).1) (fun _ _=>rfl) (by omega)
  have hROn:os≠[]→(adr a4).block∉[b10,b6]:=fun hne=>by
   obtain ⟨q,rfl⟩:=O4.form (List.length_pos_iff.2 hne)
   have:=(hb4 (q,Bl 62 f4) (List.mem_singleton.2 rfl)).2
   simp only [List.mem_cons,List.not_mem_nil,or_false]
   show ¬ (q=b10∨q=b6)
   dsimp only at this
   omega
  have H4:=H.call F.ext
  have hs4:=H4.size
  have hb60:w0.heap.size≤b6:=(H4.own _ (List.mem_of_getElem? at1)).elim (fun h=>by cases h) id
  have hb100:w0.heap.size≤b10:=(H4.own _ (List.mem_of_getElem? at0)).elim (fun h=>by cases h) id
  have hl6:=H4.lt at1
  have hl10:=H4.lt at0
  have hx4:=H4.ext
  have hnR:rs≠[]→(adr a).block∉[b10,b6]:=fun hne=>by
   have:=R.lt' (fun _ _=>rfl) (by decide) hne
   simp only [List.mem_cons,List.not_mem_nil,or_false]; omega
  have RR:=R.ext0 hx4
  obtain ⟨w4,rfl⟩:∃ z,z=w:=⟨_,rfl⟩
  have H:=Ctx.lend (L1:=[_,_]) (L2:=[]) H4
  dsimp only [List.map] at H
  have hwe:∀ d∈os,-1000000000≤d.we∧d.we≤1000000000:=fun d hd=>by
   rw [hbb] at h1
   have hB:=(EV (by omega)).1 (show CD rs ds=true by simpa using h1)
   rw [hos] at hd
   have:=(E5 (hB.due d (Mg hd).1).1).2.2.2.2.1
   omega
  refine Af (Ae rfl rfl (Ab (Aa (Au (Bf 295147905179218618368 (α:=LS2) (fun t=>[(11,.slice t.a2 t.i t.c2),(13,.int .i64 (t.i:Int))]) (fun t w'=>t.i≤os.length∧OS t.a t.i t.c 4 t.f (((os.take t.i).map Fu).flatMap Cw)∧OS t.a2 t.i t.c2 1 t.f2 (((os.take t.i).map Du.id).map Hk)∧Ctx w4 [b10,b6] w' ((b10,Bl 28 [.int .i64 ((rs.length:Int)+1),.slice t.a t.i t.c])::(b6,Bl 28 [.int .i64 0,.slice none 0 0])::(ent t.a2 24 t.f2++ent t.a 92 t.f))) (fun t=>os.length - t.i) ⟨0,none,0,[],none,0,[]⟩ rfl ?_ ?_ ?_)))))
  ·exact ⟨rfl,rfl,trivial⟩
  ·exact ⟨Nat.zero_le _,OS.nil,OS.nil,H⟩
  ·clear H
   rintro ⟨i,aE,cE,fE,aI,cI,fI⟩ jj w ⟨hi,O,OI,H⟩; dsimp only at hi O OI H; dsimp only
   refine An (Af (Ad rfl rfl (Aj rfl rfl (AV rfl B4 rfl (AZ rfl rfl rfl (Ab (Aa (Aq _ rfl ?_ ?_))))))))
   ·intro h3
    replace h3:=AF h3
    obtain ⟨d,hd⟩:=A0 (l:=os) (i:=i) (by omega)
    have hwd:=hwe d (List.mem_of_getElem? hd)
    refine Ao (Aa (An (Au (CP [([0,1,2,3,4,5,6,7,8,9,10,11,12,13,14,15,16,17,18,19,20,21,22,23],24),([],25),([26],27)] (fun z=>Ext [b10,b6] w4 z∧z.heap[b10]? = some (Bl 28 [.int .i64 ((rs.length:Int)+1),.slice aE i cE])) [27] B0 (by kernel_rfl) (⟨H.drew.ext,H.drew.get at0⟩) ?_))))
    refine AU rfl rfl ?_
    refine AH rfl Cc rfl (BP rfl Dh rfl (fun _ hx=>(by rw [Ay hx.2]; rfl)) ?_)
    refine Bi rfl rfl (AS rfl rfl (BT RO rfl B4 B2 rfl rfl (by omega) (by omega) (by rfl) ?_))
    refine AH rfl E1 rfl (BP rfl BV rfl (fun _ hx=>((RO.ext' hx.1 hROn).fld hd rfl (j:=1) rfl)) ?_)
    refine Bi rfl rfl (AS rfl rfl (BT RO rfl B4 B2 rfl rfl (by omega) (by omega) (by rfl) ?_))
    refine AH rfl E3 rfl (BP rfl BV rfl (fun _ hx=>((RO.ext' hx.1 hROn).fld hd rfl (j:=2) rfl)) ?_)
    refine Bi rfl rfl (AS rfl rfl (BT RO rfl B4 B2 rfl rfl (by omega) (by omega) (by rfl) ?_))
    refine AH rfl Dp rfl (BP rfl Bt rfl (fun _ hx=>((RO.ext' hx.1 hROn).fld hd rfl (j:=3) rfl)) ?_)
    refine Bi rfl rfl (AS rfl rfl (BT RO rfl B4 B2 rfl rfl (by omega) (by omega) (by rfl) ?_))
    refine AH rfl J4 rfl (BP rfl Bt rfl (fun _ hx=>((RO.ext' hx.1 hROn).fld hd rfl (j:=4) rfl)) ?_)
    refine NM rfl rfl (by omega) (by omega) ?_
    refine Kw (Cw (Fu d)) rfl Oa Fd (by kernel_rfl) ?_
    refine Ba ?_
    replace H:=H.drew
    refine C3 _ (.agg _) rfl C0 CC Fd rfl (by decide) (by decide) rfl rfl rfl H ?_
    rintro b57 w - H
    refine Ab (BL (⟨H.ext,H.get at1⟩) (AU rfl rfl ?_))
    refine Ba (Cl (L:=_::_::ent aI 24 fI) rfl C0 C0 CC Tt Fd rfl (by decide) rfl rfl H O rfl (ES _) (by omega) ?_)
    rintro aE' cE' fE' w H O
    refine Ab (BL (⟨H.ext,H.get at0⟩) (AU rfl rfl ?_))
    refine AH rfl Cc rfl (Ba (Cy (.slice _ _ _) rfl VX rfl rfl rfl H at0 (by (simp; done)) ?_))
    rintro w H
    refine Ab (BW rfl (BO ?_))
    replace H:=H.perm (List.Perm.append_left [_,_] (List.perm_append_comm (l₁:=ent aI 24 fI) (l₂:=ent aE' 92 fE')))
    refine Av (Aj rfl rfl (Aj rfl rfl (Ad rfl rfl (AK RO rfl B4 B2 rfl rfl (by omega) (by omega) (by rfl) ?_))))
    refine Ah rfl Dw rfl (Bb rfl BK rfl (((RO.ext' H.ext hROn).fld hd rfl (j:=0) rfl)) ?_)
    refine C3 _ (.int _ _) rfl Bz Bo Ob rfl (by decide) (by decide) rfl rfl rfl H ?_
    rintro b66 w - H
    refine Cl (L:=_::_::ent aE' 92 fE') rfl Bz Bz Bo V1 Ob rfl (by decide) rfl rfl H OI rfl (by simp [Bm]) (by omega) ?_
    rintro aI' cI' fI' w H OI
    refine Az rfl rfl (Ab (A5 (Aa (Av (Ad rfl rfl (Ap rfl rfl rfl (by omega) (by omega) ?_))))))
    refine Ae rfl rfl (Ab (Aa ?_))
    exact ⟨⟨i+1,aE',cE',fE',aI',cI',fI'⟩,rfl,⟨rfl,rfl,trivial⟩,⟨by dsimp only; omega,by dsimp only; rw [Fk hd,List.flatMap_append]; exact O,by dsimp only; rw [Fk hd,List.map_append]; exact OI,H.perm (List.Perm.append_left [_,_] (List.perm_append_comm (l₁:=ent aE' 92 fE') (l₂:=ent aI' 24 fI')))⟩,by dsimp only; omega⟩
   ·intro h3
    replace h3:=AG h3
    obtain rfl:i=os.length:=by omega
    rw [List.take_length] at O OI
    obtain ⟨wq,rfl⟩:∃ z,z=w:=⟨_,rfl⟩
    have H7:=H
    refine Bc (Ak (Ak (AD (Aa (An (Af (Ae rfl rfl (Ab (Aa (Au (Bf 9903520019135137019840184320 (α:=LSt) (fun t=>[(14,.int .i64 (t.i:Int))]) (fun t w'=>(t.i≤rs.length∧(net=true→t.i=0))∧OS t.a (os.length+2*t.i) t.c 4 t.full ((os.map Fu++(IP rs).take (2*t.i)).flatMap Cw)∧Ctx w4 [b10,b6] w' ((b10,Bl 28 [.int .i64 ((rs.length:Int)+1),.slice t.a (os.length+2*t.i) t.c])::(b6,Bl 28 [.int .i64 0,.slice none 0 0])::(ent aI 24 fI++ent t.a 92 t.full))) (fun t=>rs.length - t.i) ⟨0,aE,cE,fE⟩ rfl ?_ ?_ ?_)))))))))))
    ·exact ⟨rfl,trivial⟩
    ·exact ⟨⟨Nat.zero_le _,fun _=>rfl⟩,by dsimp only; rw [Nat.mul_zero,List.take_zero,List.append_nil]; exact O,H⟩
    ·clear H H7 O
     rintro ⟨i,aE2,cE2,fE2⟩ jj2 w ⟨⟨hi,hnet⟩,O,H⟩; dsimp only at hi hnet O H; dsimp only
     refine An (Af (BD (α:=Unit) 75262715820734970593280 (fun _=>[(75,.bool ((decide (i<rs.length) && !net)))]) (fun _ w'=>Ctx w4 [b10,b6] w' ((b10,Bl 28 [.int .i64 ((rs.length:Int)+1),.slice aE2 (os.length+2*i) cE2])::(b6,Bl 28 [.int .i64 0,.slice none 0 0])::(ent aI 24 fI++ent aE2 92 fE2))) rfl ?_ ?_))
     ·refine Ad rfl rfl (Aj rfl rfl (AV rfl AO rfl (AZ rfl rfl rfl (Aw rfl rfl (AE 72 rfl ?_ ?_)))))
      ·intro h1
       replace h1:=AF h1
       refine Aw rfl rfl (B1 rfl rfl (AA rfl rfl (.bool _) rfl (Ab ?_)))
       exact ⟨rfl,(),rfl,⟨congrArg Value.bool (by rw [Bool.eq_iff_iff]; simp_all; try omega),trivial⟩,H⟩
      ·intro h2
       replace h2:=AG h2
       refine Ag rfl (Ag rfl (A6 rfl rfl (.bool _) rfl (Ab ?_)))
       exact ⟨rfl,(),rfl,⟨congrArg Value.bool (by rw [Bool.eq_iff_iff]; simp_all; try omega),trivial⟩,H⟩
     rintro - j75 w H
     refine Aq _ rfl ?_ ?_
     ·intro h4
      rw [Bool.and_eq_true,decide_eq_true_eq,Bool.not_eq_true'] at h4
      obtain ⟨x,hx7⟩:=A0 (l:=rs) (i:=i) h4.1
      refine Ao (Aa (An (Au (Fq [([0,1,2,3,4,5,6,7,8,9,10,11],12),([],13),([14],15)] (fun z=>Ext [b10,b6] w4 z∧z.heap[b10]? = some (Bl 28 [.int .i64 ((rs.length:Int)+1),.slice aE2 (os.length+2*i) cE2])) [15] B0 (by kernel_rfl) (⟨H.drew.ext,H.drew.get at0⟩) ?_))))
      refine AU rfl rfl ?_
      refine AH rfl Cc rfl (BP rfl Dh rfl (fun _ hx=>(by rw [Ay hx.2]; rfl)) ?_)
      refine AS rfl rfl (AS rfl rfl (Bi rfl rfl (AS rfl rfl (BT R rfl AO Bu rfl rfl (by omega) (by omega) (by rfl) ?_))))
      refine BP rfl Bt rfl (fun _ hx=>((RR.ext' hx.1 hnR).fld hx7 rfl (j:=0) rfl)) ?_
      refine Kw (Cw ⟨rs.length,i,x,0⟩) rfl Oa Fd (by kernel_rfl) ?_
      refine AS rfl rfl (AS rfl rfl (Kw (Cw ⟨i,rs.length,4503599627370496,0⟩) rfl Oa Fd (by kernel_rfl) ?_))
      refine Ba ?_
      replace H:=H.drew
      refine J0 (Cw ⟨rs.length,i,x,0⟩++Cw ⟨i,rs.length,4503599627370496,0⟩) rfl C0 CC Fd (by decide) (by decide) (by kernel_rfl) H ?_
      rintro b90 w - H
      refine Ab (BL (⟨H.ext,H.get at1⟩) (AU rfl rfl ?_))
      refine Ba (Cl (L:=_::_::ent aI 24 fI) rfl C0 C0 CC Tt Fd rfl (by decide) rfl rfl H O rfl (fun v hv=>(List.mem_append.1 hv).elim (ES _ v) (ES _ v)) (by omega) ?_)
      rintro aE' cE' fE' w H O
      refine Ab (BL (⟨H.ext,H.get at0⟩) (AU rfl rfl ?_))
      refine AH rfl Cc rfl (Ba (Cy (.slice _ _ _) rfl VX rfl rfl rfl H at0 (by (simp; done)) ?_))
      rintro w H
      refine Ab (BW rfl (BO (A5 (Aa (Av (Ad rfl rfl (Ap rfl rfl rfl (by omega) (by omega) ?_)))))))
      refine Ae rfl rfl (Ab (Aa ?_))
      refine ⟨⟨i+1,aE',cE',fE'⟩,rfl,⟨rfl,trivial⟩,⟨⟨by dsimp only; omega,fun h=>by rw [h4.2] at h; cases h⟩,?_,?_⟩,by dsimp only; omega⟩
      ·dsimp only
       rw [Xr hx7,← List.append_assoc,List.flatMap_append,show os.length+2*(i+1)=os.length+2*i+2 by omega]
       exact O
      ·dsimp only
       rw [show os.length+2*(i+1)=os.length+2*i+2 by omega]
       exact H
     ·intro h4
      have h4':¬ (i<rs.length∧net=false):=fun h=>by rw [decide_eq_true h.1,h.2] at h4; cases h4
      have hre:=Va rs os net i hnet (fun h=>by
       have hf:net=false:=by simpa using h
       rcases Nat.lt_or_ge i rs.length with h7 | h7
       ·exact absurd ⟨h7,hf⟩ h4'
       ·omega)
      rw [hre] at O
      have hlen:os.length+2*i=(BF rs os net).length:=by
       rw [← hre,List.length_append,List.length_map,List.length_take,Mf]; omega
      rw [hlen] at O H
      refine Bc (Ak (Ak (AD (Aa (Af (B6 rfl Cm BQ rfl H at0 rfl (Aj rfl rfl (B5 rfl BQ rfl rfl rfl (by simp [Bm]) H at1 rfl ?_))))))))
      rintro w H
      refine Az rfl rfl (Ae rfl rfl (Ab (Aa (A8 (Pe rfl rfl rfl Cm BQ H at1 rfl (show _=(.slice _ _ _) from rfl) (show _=(.int _ _) from rfl) ?_)))))
      have hxx:=hx4.then H.ext fun x hx => .inr (by simp only [List.mem_cons,List.not_mem_nil,or_false] at hx; omega)
      have hown:∀ y∈((b10,Bl 28 [.int .i64 ((rs.length:Int)+1),.slice aE2 (BF rs os net).length cE2])::(b6,Bl 28 [.int .i64 ((rs.length:Int)+1),.slice aE2 (BF rs os net).length cE2])::(ent aI 24 fI++ent aE2 92 fE2)),w0.heap.size≤y.1:=fun y hy=>by
       rcases H.own y hy with h | h
       ·simp only [List.mem_cons,List.not_mem_nil,or_false] at h; omega
       ·omega
      refine ⟨hxx,.inr ⟨by rw [← hbb]; simpa using h1,aE2,(BF rs os net).length,cE2,.slice aI os.length cI,rfl,?_,?_⟩⟩
      ·rw [← hos]
       refine ⟨aE2,cE2,rfl,O.le,OS.rd O (fun x hx=>H.blk x (List.mem_cons_of_mem _ (List.mem_cons_of_mem _ (List.mem_append_right _ hx)))) (fun _ _=>rfl) (by decide),fun hne'=>?_⟩
       obtain ⟨q,rfl⟩:=O.form (List.length_pos_iff.2 hne')
       exact hown (q,Bl 92 fE2) (List.mem_cons_of_mem _ (List.mem_cons_of_mem _ (List.mem_append_right _ (List.mem_singleton.2 rfl))))
      ·rw [← hos]
       refine ⟨aI,cI,by rw [List.length_map],by rw [List.length_map]; exact OI.le,OI.rd1 (fun x hx=>H.blk x (List.mem_cons_of_mem _ (List.mem_cons_of_mem _ (List.mem_append_left _ hx)))),fun hne'=>?_⟩
       obtain ⟨q,rfl⟩:=OI.form (by have:=List.length_pos_iff.2 hne'; rw [List.length_map] at this; exact this)
       exact hown (q,Bl 24 fI) (List.mem_cons_of_mem _ (List.mem_cons_of_mem _ (List.mem_append_left _ (List.mem_singleton.2 rfl))))
end Go.Proofs.YtapphbmlkdhnmaaGreat

/- The best flow: the walk. -/
namespace Go.Proofs.YtapphbmlkdhnmaaGreat
open Go.GV
attribute [local irreducible] AL W Wq Wt

theorem perm5 {α:Type} {a b c d e:α} {r:List α}:(a::b::c::d::e::r).Perm (d::a::e::b::c::r) :=
 (List.perm_middle (l₁:=[a,b,c]) (l₂:=e::r)).trans (((List.perm_middle (l₁:=[b,c]) (l₂:=r)).cons _).cons _)
/-- Numbers that are 0 beyond the table. -/
theorem QZ (f:Nat→Int) (n:Nat):∃ f1:Nat→Int,BE f n=BE f1 n∧flE (tab f1 n)=f1∧EF (tab f1 n)=f1∧∀ i,i<n→f1 i=f i:=by
 refine ⟨fun i=>if i<n then f i else 0,List.map_congr_left fun i hi=>by dsimp only; rw [if_pos (List.mem_range.1 hi)],?_,?_,fun i hi=>if_pos hi⟩
 all_goals
  funext i
  first | unfold flE | unfold EF
  rcases Nat.lt_or_ge i n with h | h
  ·rw [Bn (BN h)]
  ·rw [List.getD_eq_getElem?_getD,List.getElem?_eq_none (by rw [CQ]; exact h)]
   exact (if_neg (by omega)).symm
theorem Xs {g:Gr} {cap x y p:Nat→Int} (h:Fine g cap x p) (hy:∀ i,i<g.E→y i=x i):Fine g cap y p:=by
 refine ⟨fun i hi=>by rw [hy i hi]; exact h.in' i hi,fun a ha hr=>h.fit a ha ?_⟩
 unfold CI at hr ⊢
 rw [hy _ (by omega)] at hr
 exact hr

theorem Ab5 {w:World} {bs bf bp bo:Nat} {N n:Nat} {ae:Option Addr} {ce:Nat} {kk:Int} {es:List Ed} {x p ov:Nat→Int} {full:List Value} {g:Gr} {cap:Nat→Int} (hn:es.length=n) (hg:grE (N:Int) es=g) (hcap:∀ i,i<n→Co es i=cap i) (H0:Ctx w ((SL bs bf bp bo N ae n ce kk x p ov full).map (·.1)) w (SL bs bf bp bo N ae n ce kk x p ov full)) (O:OS ae n ce 4 full (es.flatMap Cw))
  (hr:Cb (N:Int) es=true) (hF:Fine g cap x p) (hov:∀ v,v<N→ov v=BA g x v) (hpb:∀ v,v<N → -1073741824≤p v∧p v≤1073741824) :
  Ret Tryz.prog 120 #[ptr bs] w fun v w'=>∃ (b:Bool) (x' p' ov':Nat→Int) (kk':Int),v = .bool b∧Ctx w ((SL bs bf bp bo N ae n ce kk x p ov full).map (·.1)) w' (SL bs bf bp bo N ae n ce kk' x' p' ov' full)∧Fine g cap x' p'∧(∀ v,v<N→ov' v=BA g x' v)∧(∀ v,v<N → -1073741824≤p' v∧p' v≤1073741824) ∧
   (b=false→∀ v,v<N→BA g x' v≤0)∧(b=true→GR g x'+1≤GR g x):=by
 subst hn hg
 obtain ⟨x1,hx1,hxn,-,hxe⟩:=QZ x es.length
 obtain ⟨p1,hp1,-,hpn,hpe⟩:=QZ p N
 have hgo:=GY hr
 have hsl:SL bs bf bp bo N ae es.length ce kk x p ov full=SL bs bf bp bo N ae es.length ce kk x1 p1 ov full:=by unfold SL; rw [hx1,hp1]
 have hF1:Fine (grE (N:Int) es) (Co es) x1 p1:=Na hgo (Xs (Ll hF hcap) hxe) hpe
 have hov1:∀ v,BA (grE (N:Int) es) x1 v=BA (grE (N:Int) es) x v:=fun v=>Ke hxe v
 have hex:GR (grE (N:Int) es) x1=GR (grE (N:Int) es) x:=C4 fun v _=>by rw [hov1]
 rw [hsl] at H0 ⊢
 refine Ret.mono (Yw H0 O hr hF1 (fun v hv=>by rw [hov1]; exact hov v hv) (fun v hv=>by rw [hpe v hv]; exact hpb v hv) hxn hpn) ?_
 rintro v w' ⟨b,x',p',ov',kk',h1,h2,h3,h4,h5,h6,h7⟩
 exact ⟨b,x',p',ov',kk',h1,h2,Ll h3 fun i hi=>(hcap i hi).symm,h4,h5,h6,fun h=>by rw [← hex]; exact h7 h⟩
theorem Rc (g:Gr) (v:Nat):BA g (fun _=>0) v=0:=by
 have:BA g (fun _=>0) v=B7 (fun _=>0) g.E:=C4 fun i _=>by rw [Int.mul_zero]
 rw [this,Gg]
structure PSt where
 j:Nat
 full:List Value
 x:Nat→Int
 p:Nat→Int
 ov:Nat→Int
 kk:Int
structure FSt where
 x:Nat→Int
 p:Nat→Int
 ov:Nat→Int
 kk:Int

set_option maxRecDepth 20000 in
set_option maxHeartbeats 8000000 in
theorem YH (N:Nat) (a:Option Addr) (c:Nat) (es:List Ed) (w:World) (R:Rd w a 4 Cw es) (hr:Cb (N:Int) es=true) :
  Ret Tryz.prog 59 #[CS (N:Int) a es.length c] w fun v w'=>∃ (bf bp:Nat) (x p:Nat→Int) (k:Int),v = .tuple #[MT (some ⟨bf,0,none⟩) (some ⟨bp,0,none⟩) es.length es.length N N,.int .i64 k,.int .i64 0]∧Fine (grE (N:Int) es) (Co es) x p∧(∀ v,v<N→BA (grE (N:Int) es) x v=0)∧(∀ v,v<N → -1073741824≤p v∧p v≤1073741824)∧Ctx w [] w' [(bf,Bl 2 (BE x es.length)),(bp,Bl 2 (BE p N))]:=by
 obtain ⟨w0,rfl⟩:∃ w0,w0=w:=⟨_,rfl⟩
 have H:=Ctx.start w0 []
 obtain ⟨hN1,hN40,hn200,hall,-⟩:=Cn hr
 have hI:I64 (N:Int):=by unfold I64; omega
 refine A9 (fn:=Tryz.f59) Tryz.func59 rfl [CS (N:Int) a es.length c] rfl (by kernel_rfl) ?_
 refine Af (BC rfl [.int .i64 (N:Int),.slice a es.length c] (.agg _) rfl rfl H ?_)
 rintro b1 w - H
 refine Bj rfl Wb H ?_
 rintro b2 w - H
 refine Ae rfl rfl (Ae rfl rfl (Ab (Aa (OZ (An (Af (B6 rfl Cm BQ rfl H at1 rfl (Am rfl Po (KE (N:Int) a es.length c es _ (R.ext0 H.ext) rfl hI) rfl ?_))))))))
 rintro v w ⟨rfl,hx11⟩
 replace H:=H.call hx11
 refine B1 rfl rfl (Ab (Aa (Aq _ rfl ?_ ?_)))
 ·intro h1
  replace h1:=Bv h1
  rw [hr] at h1
  cases h1
 ·intro h1
  replace h1:=Bw h1
  refine Ao (Aa (El 8589918240 (α:=Nat × Nat × Nat × Nat × Nat × Nat × List Value) (fun z=>[(5,ptr z.1)]) (fun z w'=>OS (some ⟨z.2.2.2.2.1,0,none⟩) es.length z.2.2.2.2.2.1 4 z.2.2.2.2.2.2 (es.flatMap Cw)∧Ctx w0 [] w' [(z.2.1,Bl 2 (BE (fun _=>0) es.length)),(z.2.2.2.1,Bl 2 (BE (fun _=>0) N)),(z.2.2.2.2.1,Bl 92 z.2.2.2.2.2.2),(z.1,Bl 170 (SC N (some ⟨z.2.2.2.2.1,0,none⟩) es.length z.2.2.2.2.2.1 z.2.1 z.2.2.1 z.2.2.2.1 0)),(z.2.2.1,Bl 2 (BE (fun _=>0) N)),(b2,Bl 31 [.slice none 0 0,.slice none 0 0]),(b1,Bl 28 [.int .i64 (N:Int),.slice a es.length c])]) rfl ?_ ?_))
  ·skip
   have hb1:=H.get at1
   refine Um (n:=19) (anc:=Gt) Bk.b (Zn es.length es) (fun i=>14+i) (QE b1 N es.length a c) (Gu N es.length) (show Tryz.prog.follows .mixedOrders=true by kernel_rfl) rfl (by kernel_rfl) ?_ (fun i j _ _ h=>by have h:14+i=14+j:=h; omega) (fun i k b B=>sStab b1 N es.length a c i k b B) ?_ ?_
   ·intro k hk
    have:k=0∨k=1∨k=2∨k=3∨k=4∨k=5∨k=6∨k=7∨k=8∨k=9∨k=10∨k=11∨k=12∨k=13∨k=14∨k=15∨k=16∨k=17∨k=18:=by omega
    simp [Gt]
    omega
   ·intro i o e' w' B hi ho hold hsl hx hbl hgd
    have h4:e'.g 1=ptr b1:=(hold 1 fun j hj h=>by have h:1=14+j:=h; omega).trans rfl
    have hc4:w'.heap[b1]? = some (Bl 28 [.int .i64 (N:Int),.slice a es.length c]):=hx.to (by exact hb1) (by simp)
    have hcs:i=0∨i=1∨i=2∨i=3∨i=4∨i=5∨i=6∨i=7∨i=8∨i=9∨i=10∨i=11∨i=12∨i=13∨i=14∨i=15∨i=16∨i=17∨i=18:=by omega
    have hpure:∀ {v:Value},Gu N es.length i=none→i≠5→QE b1 N es.length a c i (Jd B i default)=v→AQB Bk.b (Zn es.length es) (fun i=>14+i) (QE b1 N es.length a c) (Gu N es.length) i e' w' B (put e' (some (14+i)) v) w':=fun h1 h5 h2=>⟨default,fun h=>absurd h h5,fun ob h=>(by rw [h1] at h; cases h),.refl _ _,by rw [h2]⟩
    rcases hcs with rfl | rfl | rfl | rfl | rfl | rfl | rfl | rfl | rfl | rfl | rfl | rfl | rfl | rfl | rfl | rfl | rfl | rfl | rfl
    ·cases Option.some.inj ho
     exact Ah rfl (by kernel_rfl) h4 (Ab (hpure rfl (by decide) rfl))
    ·cases Option.some.inj ho
     exact Bb rfl BV (hsl 0 (by simp [Gt])) (by rw [Ay hc4]; rfl) (Ab (hpure rfl (by decide) rfl))
    ·cases Option.some.inj ho
     refine Jz rfl C0 CC (Ctx.start w' []) fun b w2 H O=>?_
     have hbb:=H.blk (b,_) (List.mem_cons_self ..)
     exact Ab ⟨⟨b,0,[]⟩,(fun h=>by cases h),fun ob h=>(by obtain rfl:=Option.some.inj h; exact ⟨(H.own _ (List.mem_cons_self ..)).elim (fun h=>by cases h) id,hbb⟩),H.ext,rfl⟩
    ·cases Option.some.inj ho
     exact Ah rfl (by kernel_rfl) h4 (Ab (hpure rfl (by decide) rfl))
    ·cases Option.some.inj ho
     exact Bb rfl Dh (hsl 3 (by simp [Gt])) (by rw [Ay hc4]; rfl) (Ab (hpure rfl (by decide) rfl))
    ·cases Option.some.inj ho
     have h16:e'.g 16 = .slice (some ⟨(B 2).b,0,none⟩) 0 0:=hsl 2 (by simp [Gt])
     have h18:e'.g 18 = .slice a es.length c:=hsl 4 (by simp [Gt])
     by_cases hn:es.length=0
     ·rw [hn] at h18
      exact Qh rfl C0 C0 CC h16 h18 (Ab ⟨default,fun _ => .inl hn,fun ob h=>(by simp [Gu,hn] at h),.refl _ _,by simp [QE,sQ,hn,Jd]⟩)
     ·refine RS rfl C0 C0 CC Tt Fd rfl (by decide) (es.flatMap Cw) h16 h18 (by omega) (EC fun _ _=>rfl) (Rd.app (R.ext0 ((H.ext.trans (Ext.drew [] _)).trans hx)) (fun _ _=>rfl) (by decide)) (by omega) fun b c' full' w2 hb hx2 hbl2 O2=>?_
      exact Ab ⟨⟨b,c',full'⟩,fun _ => .inr O2,fun ob h=>(by simp only [Gu,hn] at h; simp at h; subst h; exact ⟨by dsimp only; omega,by dsimp only; rw [HK]; exact hbl2⟩),hx2,by simp [QE,sQ,hn,Jd]⟩
    ·cases Option.some.inj ho
     refine CE [.int .i64 (N:Int),.slice (some ⟨(sQ es.length B).b,0,none⟩) es.length (sQ es.length B).c] rfl VU FO ?_ (Ab (hpure rfl (by decide) rfl))
     show Instr.fill _ _ [(0,e'.g 15),(1,e'.g 19)]=_
     rw [show e'.g 15 = .int .i64 (N:Int) from hsl 1 (by simp [Gt]),show e'.g 19 = .slice (some ⟨(sQ es.length B).b,0,none⟩) es.length (sQ es.length B).c from hsl 5 (by simp [Gt])]
     rfl
    ·cases Option.some.inj ho
     exact Ah rfl (by kernel_rfl) h4 (Ab (hpure rfl (by decide) rfl))
    ·cases Option.some.inj ho
     exact Bb rfl Dh (hsl 7 (by simp [Gt])) (by rw [Ay hc4]; rfl) (Ab (hpure rfl (by decide) rfl))
    ·cases Option.some.inj ho
     exact AV rfl C0 (hsl 8 (by simp [Gt])) (Ab (hpure rfl (by decide) rfl))
    ·cases Option.some.inj ho
     refine F8 rfl AO Bu HN Fa (hsl 9 (by simp [Gt])) (hsl 9 (by simp [Gt])) (by omega) (by omega) (by omega) (by omega) (Ctx.start w' []) fun b w2 hb H=>?_
     have hbb:=H.get at0
     rw [show ((es.length:Nat):Int).toNat=es.length from rfl,DZ] at hbb
     exact Ab ⟨⟨b,0,[]⟩,(fun h=>by cases h),fun ob h=>(by obtain rfl:=Option.some.inj h; exact ⟨by dsimp only; omega,hbb⟩),H.ext,rfl⟩
    ·cases Option.some.inj ho
     exact Ah rfl (by kernel_rfl) h4 (Ab (hpure rfl (by decide) rfl))
    ·cases Option.some.inj ho
     exact Bb rfl BV (hsl 11 (by simp [Gt])) (by rw [Ay hc4]; rfl) (Ab (hpure rfl (by decide) rfl))
    ·cases Option.some.inj ho
     refine F8 rfl AO Bu HN Fa (hsl 12 (by simp [Gt])) (hsl 12 (by simp [Gt])) (by omega) (by omega) (by omega) (by omega) (Ctx.start w' []) fun b w2 hb H=>?_
     have hbb:=H.get at0
     rw [show ((N:Nat):Int).toNat=N from rfl,DZ] at hbb
     exact Ab ⟨⟨b,0,[]⟩,(fun h=>by cases h),fun ob h=>(by obtain rfl:=Option.some.inj h; exact ⟨by dsimp only; omega,hbb⟩),H.ext,rfl⟩
    ·cases Option.some.inj ho
     exact Ah rfl (by kernel_rfl) h4 (Ab (hpure rfl (by decide) rfl))
    ·cases Option.some.inj ho
     exact Bb rfl BV (hsl 14 (by simp [Gt])) (by rw [Ay hc4]; rfl) (Ab (hpure rfl (by decide) rfl))
    ·cases Option.some.inj ho
     refine F8 rfl AO Bu HN Fa (hsl 15 (by simp [Gt])) (hsl 15 (by simp [Gt])) (by omega) (by omega) (by omega) (by omega) (Ctx.start w' []) fun b w2 hb H=>?_
     have hbb:=H.get at0
     rw [show ((N:Nat):Int).toNat=N from rfl,DZ] at hbb
     exact Ab ⟨⟨b,0,[]⟩,(fun h=>by cases h),fun ob h=>(by obtain rfl:=Option.some.inj h; exact ⟨by dsimp only; omega,hbb⟩),H.ext,rfl⟩
    ·cases Option.some.inj ho
     refine CE (sSC N es.length B) rfl Abd Abk ?_ (Ab (hpure rfl (by decide) rfl))
     show Instr.fill _ _ [(0,e'.g 20),(1,e'.g 24),(2,e'.g 27),(3,e'.g 30)]=_
     rw [show e'.g 20 = .agg #[.int .i64 (N:Int),.slice (some ⟨(sQ es.length B).b,0,none⟩) es.length (sQ es.length B).c] from hsl 6 (by simp [Gt]),show e'.g 24 = .slice (some ⟨(B 10).b,0,none⟩) es.length es.length from hsl 10 (by simp [Gt]),show e'.g 27 = .slice (some ⟨(B 13).b,0,none⟩) N N from hsl 13 (by simp [Gt]),show e'.g 30 = .slice (some ⟨(B 16).b,0,none⟩) N N from hsl 16 (by simp [Gt])]
     rfl
    ·cases Option.some.inj ho
     refine BC rfl (sSC N es.length B) (.agg _) (hsl 17 (by simp [Gt])) rfl (Ctx.start w' []) fun b w2 hb H=>?_
     exact Ab ⟨⟨b,0,[]⟩,(fun h=>by cases h),fun ob h=>(by obtain rfl:=Option.some.inj h; exact ⟨by dsimp only; omega,H.get at0⟩),H.ext,rfl⟩
   ·intro o e' w' B ho A
    have hl1:=Bp hb1
    have hl2:=Bp (H.get at0)
    have h9:w.drew.heap.size=w.heap.size:=rfl
    obtain ⟨iq,hiq,hqb,hqh,hqo,O5⟩:∃ iq,(iq=2∨iq=5)∧(sQ es.length B).b=(B iq).b∧w'.heap[(B iq).b]? = some (Bl 92 (sQ es.length B).f)∧(Gu N es.length iq≠none)∧OS (some ⟨(sQ es.length B).b,0,none⟩) es.length (sQ es.length B).c 4 (sQ es.length B).f (es.flatMap Cw):=by
     by_cases hn:es.length=0
     ·have he:es=[]:=List.eq_nil_of_length_eq_zero hn
      have hsq:sQ es.length B=⟨(B 2).b,0,[]⟩:=if_pos hn
      rw [hsq]
      refine ⟨2,.inl rfl,rfl,(A.blk 2 _ (by omega) trivial (show Gu N es.length 2=some _ from rfl)).1,by simp [Gu],?_⟩
      subst he
      exact ⟨(fun q hq=>by injection hq with hq; subst hq; rfl),(fun h=>by cases h),rfl,Nat.le_refl _,rfl⟩
     ·have hsq:sQ es.length B=B 5:=if_neg hn
      have ho5:Gu N es.length 5=some fun B=>Bl 92 (B 5).f:=by simp [Gu,hn]
      rw [hsq]
      exact ⟨5,.inr rfl,rfl,(A.blk 5 _ (by omega) trivial ho5).1,by rw [ho5]; simp,(A.good 5 (by omega) trivial rfl).resolve_left hn⟩
    have hiq19:iq<19:=by omega
    have ob10:Gu N es.length 10≠none:=by simp [Gu]
    have ob13:Gu N es.length 13≠none:=by simp [Gu]
    have ob16:Gu N es.length 16≠none:=by simp [Gu]
    have ob18:Gu N es.length 18≠none:=by simp [Gu]
    have hne:=fun i j hi hj hij oi oj=>A.ne i j hi hj hij trivial trivial oi oj
    have k10:=A.blk 10 _ (by omega) trivial (show Gu N es.length 10=some _ from rfl)
    have k13:=A.blk 13 _ (by omega) trivial (show Gu N es.length 13=some _ from rfl)
    have k16:=A.blk 16 _ (by omega) trivial (show Gu N es.length 16=some _ from rfl)
    have k18:=A.blk 18 _ (by omega) trivial (show Gu N es.length 18=some _ from rfl)
    have kq:w.heap.size≤(B iq).b:=by
     cases hoq:Gu N es.length iq with
     | none=>exact absurd hoq hqo
     | some ob=>exact (A.blk iq ob hiq19 trivial hoq).2
    have hs0:=H.size
    have n10_16:=hne 10 16 (by omega) (by omega) (by omega) ob10 ob16
    have n10_q:=hne 10 iq (by omega) hiq19 (by omega) ob10 hqo
    have n10_18:=hne 10 18 (by omega) (by omega) (by omega) ob10 ob18
    have n10_13:=hne 10 13 (by omega) (by omega) (by omega) ob10 ob13
    have n16_q:=hne 16 iq (by omega) hiq19 (by omega) ob16 hqo
    have n16_18:=hne 16 18 (by omega) (by omega) (by omega) ob16 ob18
    have n16_13:=hne 16 13 (by omega) (by omega) (by omega) ob16 ob13
    have nq_18:=hne iq 18 hiq19 (by omega) (by omega) hqo ob18
    have nq_13:=hne iq 13 hiq19 (by omega) (by omega) hqo ob13
    have n18_13:=hne 18 13 (by omega) (by omega) (by omega) ob18 ob13
    have n12:=H.ne at0 at1 (by decide)
    have hb20:=(H.own _ (List.mem_cons_self ..)).elim (fun h=>by cases h) id
    have hb10:=(H.own _ (List.mem_cons_of_mem _ (List.mem_cons_self ..))).elim (fun h=>by cases h) id
    have Hc:Ctx w0 [] w' [((B 10).b,Bl 2 (BE (fun _=>0) es.length)),((B 16).b,Bl 2 (BE (fun _=>0) N)),((B iq).b,Bl 92 (sQ es.length B).f),((B 18).b,Bl 170 (sSC N es.length B)),((B 13).b,Bl 2 (BE (fun _=>0) N)),(b2,Bl 31 [.slice none 0 0,.slice none 0 0]),(b1,Bl 28 [.int .i64 (N:Int),.slice a es.length c])]:=by
     refine ⟨(H.ext.trans (Ext.drew [] _)).trans A.ext,fun x hx=>?_,?_,fun x hx => .inr ?_⟩
     ·simp only [List.mem_cons,List.not_mem_nil,or_false] at hx
      rcases hx with rfl | rfl | rfl | rfl | rfl | rfl | rfl
      ·exact k10.1
      ·exact k16.1
      ·exact hqh
      ·exact k18.1
      ·exact k13.1
      ·exact A.ext.to (H.get at0) (by simp)
      ·exact A.ext.to hb1 (by simp)
     ·simp only [List.pairwise_cons,List.mem_cons,List.not_mem_nil,or_false,forall_eq_or_imp,forall_eq,List.Pairwise.nil,false_imp_iff,implies_true,and_true]
      refine ⟨⟨n10_16,n10_q,n10_18,n10_13,?_,?_⟩,⟨n16_q,n16_18,n16_13,?_,?_⟩,⟨nq_18,nq_13,?_,?_⟩,⟨n18_13,?_,?_⟩,⟨?_,?_⟩,n12⟩ <;> omega
     ·simp only [List.mem_cons,List.not_mem_nil,or_false] at hx
      rcases hx with rfl | rfl | rfl | rfl | rfl | rfl | rfl <;> (dsimp only; omega)
    cases Option.some.inj ho
    refine Df rfl (ptr (B 18).b) (A.slot 18 (by omega) trivial) (Ab ⟨((B 18).b,(B 10).b,(B 13).b,(B 16).b,(sQ es.length B).b,(sQ es.length B).c,(sQ es.length B).f),A.ds,⟨rfl,trivial⟩,O5,?_⟩)
    dsimp only
    rw [hqb]
    have hsc:sSC N es.length B=SC N (some ⟨(B iq).b,0,none⟩) es.length (sQ es.length B).c (B 10).b (B 13).b (B 16).b 0:=by unfold sSC; rw [hqb]
    rw [hsc] at Hc
    exact Hc
  ·rintro ⟨bs,bf,bp,bo,q,ce,full⟩ j w ⟨O,H⟩; dsimp only at O H; dsimp only
   obtain ⟨g,hg⟩:∃ g,g=grE (N:Int) es:=⟨_,rfl⟩
   have hgE:g.E=es.length:=by rw [hg]; rfl
   have hgN:g.N=N:=by rw [hg]; rfl
   have hgo:g.Ok:=by rw [hg]; exact GY hr
   have hcb:=Md hr
   rw [← hg]
   refine Af (Ae rfl rfl (Ab (Aa (An (Af (Ah rfl Cc rfl (AN rfl Dh rfl H at6 rfl (AV rfl C0 rfl (Ad rfl rfl (Ab (Aa ?_)))))))))))
   refine Au (Bf 72057525318451648 (α:=Nat × Nat × List Value) (fun t=>[(36,.int .i64 (t.1:Int)),(6,.int .i64 (t.2.1:Int))]) (fun t w'=>t.1≤es.length∧OS (some ⟨q,0,none⟩) es.length ce 4 t.2.2 ((esC es (I9 (Co es) (fun _=>0) t.1)).flatMap Cw)∧(∀ j,j<t.1→(Co es j).toNat<2 ^ t.2.1)∧t.2.1≤64∧Ctx w0 [] w' [(bf,Bl 2 (BE (fun _=>0) es.length)),(bo,Bl 2 (BE (fun _=>0) N)),(q,Bl 92 t.2.2),(bs,Bl 170 (SC N (some ⟨q,0,none⟩) es.length ce bf bp bo 0)),(bp,Bl 2 (BE (fun _=>0) N)),(b2,Bl 31 [.slice none 0 0,.slice none 0 0]),(b1,Bl 28 [.int .i64 (N:Int),.slice a es.length c])]) (fun t=>es.length - t.1) (0,0,full) rfl ?_ ?_ ?_)
   ·exact ⟨rfl,rfl,trivial⟩
   ·refine ⟨Nat.zero_le _,?_,fun j h=>absurd h (Nat.not_lt_zero _),by dsimp only; omega,H⟩
    rw [JA (d:=Co es) fun i _=>by unfold I9; rw [if_neg (Nat.not_lt_zero _)],Nc]
    exact O
   ·rintro ⟨i,m,full⟩ j w ⟨hi,O,hm,hm6,H⟩; dsimp only at hi O hm hm6 H; dsimp only
    refine Af (AZ rfl rfl rfl (Ab (Aa (An (Aq _ rfl ?_ ?_)))))
    ·intro h2
     replace h2:=AF h2
     have hil:i<es.length:=by omega
     obtain ⟨e,he⟩:=A0 hil
     have hee:=D6 (hall e (List.mem_of_getElem? he))
     obtain ⟨cc,hcc⟩:∃ cc:Nat,e.cap=cc:=⟨e.cap.toNat,by omega⟩
     have henc:Cw e=[.int .i64 e.f,.int .i64 e.t,.int .i64 (cc:Int),.int .i64 e.cost]:=by unfold Cw; rw [hcc]
     have hOl:=O.len
     have hOe:=O.le
     refine Ao (Aa (An (Au (Af (Ad rfl rfl (AK R rfl C0 CC rfl rfl (by omega) (by omega) (by rfl) ?_))))))
     refine Cv _ rfl Ho CC rfl rfl (Rd.rowE (R.ext0 H.ext) he henc rfl) ?_
     refine Bj rfl Fd H ?_
     rintro b8 w - H
     refine Ae rfl rfl (B5 rfl CC rfl rfl rfl (by simp [Bm]) H at0 rfl ?_)
     rintro w H
     refine Ab (Aa (Af (A2 rfl rfl (AJ rfl rfl (Ah rfl Ge rfl (Ah rfl Cc rfl (AN rfl Dh rfl H at4 rfl (Ad rfl rfl (Bg rfl C0 CC rfl rfl (by omega) (by omega) ?_)))))))))
     refine Ah rfl DP rfl (Cy (.int _ _) rfl Bu rfl rfl rfl H at3 (by omega) ?_)
     rintro w H
     refine Ab (Aa (Av (Ad rfl rfl (Ah rfl DP rfl (AN rfl Bt rfl H at0 rfl (DI rfl rfl VZ Gx (by omega) (by omega) ?_))))))
     refine Am rfl V7 (QD cc (by omega) _) rfl ?_
     rintro v w ⟨r,rfl,hr1,hr2,-,rfl⟩
     refine Jy rfl rfl rfl ?_
     refine Ae rfl rfl (Ab (A5 (Aa (Av (Ap rfl rfl rfl (by omega) (by omega) ?_)))))
     refine Ad rfl rfl (Ab (Aa ?_))
     rw [show 0+((i:Int)).toNat*4+2=i*4+2 by omega] at H
     have O1:=OS.setf O (y:=edC es (I9 (Co es) (fun _=>0) (i+1)) i) (j:=2) (v := .int .i64 0) (fun _=>rfl) (I8 (c:=I9 (Co es) (fun _=>0) i) hil) (by decide) (by unfold edC Cw I9; dsimp only; rw [if_pos (by omega)]; rfl)
     rw [TE rfl (fun j _ hj=>TH hj)] at O1
     have hce:Co es i=(cc:Int):=by unfold Co; rw [Bn he,hcc]
     refine ⟨(i+1,max m r,full.set (i*4+2) (.int .i64 0)),rfl,⟨rfl,congrArg (Value.int .i64) (by dsimp only; omega),trivial⟩,⟨by dsimp only; omega,O1,fun j hj=>?_,by dsimp only; omega,H.tail⟩,by dsimp only; omega⟩
     dsimp only at hj ⊢
     by_cases ej:j=i
     ·subst ej
      rw [hce]
      exact Nat.lt_of_lt_of_le (by omega) (Nat.pow_le_pow_right (by decide) (Nat.le_max_right m r))
     ·exact Nat.lt_of_lt_of_le (hm j (by omega)) (Nat.pow_le_pow_right (by decide) (Nat.le_max_left m r))
    ·intro h2
     replace h2:=AG h2
     obtain rfl:i=es.length:=by omega
     rw [JA (d:=FK es m) fun i hi=>by unfold I9 FK; rw [if_pos hi,Nat.div_eq_of_lt (hm i hi)]; rfl] at O
     refine Bc (Ak (Ak (AD (Aa (Af (Ad rfl rfl (Ae rfl rfl (Ab (Aa (An (OY (Aa (An (Au (Bf 147429837401600557568 (α:=PSt) (fun t=>[(9,.int .i64 (t.j:Int))]) (fun t w'=>t.j≤64∧OS (some ⟨q,0,none⟩) es.length ce 4 t.full ((esC es (FK es t.j)).flatMap Cw)∧Fine g (FK es t.j) t.x t.p∧(∀ v,v<N→BA g t.x v=0)∧(∀ v,v<N→t.ov v=0)∧(∀ v,v<N → -1073741824≤t.p v∧t.p v≤1073741824)∧Ctx w0 [] w' [(bf,Bl 2 (BE (t.x) es.length)),(bo,Bl 2 (BE (t.ov) N)),(q,Bl 92 t.full),(bs,Bl 170 (SC N (some ⟨q,0,none⟩) es.length ce bf bp bo t.kk)),(bp,Bl 2 (BE (t.p) N)),(b2,Bl 31 [.slice none 0 0,.slice none 0 0]),(b1,Bl 28 [.int .i64 (N:Int),.slice a es.length c])]) (fun t=>t.j) ⟨m,full,fun _=>0,fun _=>0,fun _=>0,0⟩ rfl ?_ ?_ ?_)))))))))))))))
     ·exact ⟨rfl,trivial⟩
     ·refine ⟨hm6,O,⟨fun i hi=>⟨Int.le_refl _,(Mc hr m i (by omega)).1⟩,fun a ha hra=>?_⟩,fun v _=>Rc g v,fun _ _=>rfl,fun _ _=>⟨by dsimp only; omega,by dsimp only; omega⟩,H⟩
      exfalso
      unfold CI at hra
      have hai:a / 2<es.length:=by omega
      have hk0:FK es m (a / 2)=0:=by unfold FK; rw [Nat.div_eq_of_lt (hm _ hai)]; rfl
      dsimp only at hra
      rw [hk0] at hra
      split at hra <;> omega
     ·rintro ⟨j,full,x,p,ov,kk⟩ jj w ⟨hj6,O,hF,hx0,hov,hpb,H⟩; dsimp only at hj6 O hF hx0 hov hpb H; dsimp only
      rcases j with _ | j
      ·skip
       refine Au (An (Af (Ad rfl rfl (Be rfl rfl rfl (by omega) (by omega) ?_))))
       refine Ae rfl rfl (Ab (Aa (Af (Ad rfl rfl (AZ rfl rfl rfl (Ab (Aa (Aq _ rfl ?_ ?_))))))))
       ·intro h3
        replace h3:=AF h3
        refine Bc (Ak (EX rfl (Ak (AD (Aa (CP [([0,1,2,3,4,5,6,7,8,9,10,11,12],13),([14],15)] (fun z=>z.heap[bs]? = some (Bl 170 (SC N (some ⟨q,0,none⟩) es.length ce bf bp bo kk))) [] B0 (by kernel_rfl) (H.drew.get at3) ?_))))))
        refine AU rfl rfl ?_
        refine Ch rfl rfl (B3 rfl rfl (AH rfl E8 rfl (BP rfl BX rfl (fun _ hx=>(by rw [Ay hx]; rfl)) ?_)))
        refine Ch rfl rfl (B3 rfl rfl (AH rfl EA rfl (BP rfl BX rfl (fun _ hx=>(by rw [Ay hx]; rfl)) ?_)))
        refine Kw [.slice (some ⟨bf,0,none⟩) es.length es.length,.slice (some ⟨bp,0,none⟩) N N] rfl pl_31 Wb rfl ?_
        refine Ch rfl rfl (B3 rfl rfl (AH rfl MJ rfl (BP rfl BV rfl (fun _ hx=>(by rw [Ay hx]; rfl)) ?_)))
        refine Ba ?_
        replace H:=H.drew
        refine B5 rfl LA rfl rfl rfl (by simp [Bm]) H at5 rfl ?_
        rintro w H
        refine Ab (BL (H.get at3) (AU rfl rfl ?_))
        refine NN rfl rfl (Ba (Ae rfl rfl (Ab (BL (H.get at3) (BO (A8 (Ud (Pe rfl rfl rfl NV LA H at5 rfl (show _=(.int _ _) from rfl) (show _=(.int _ _) from rfl) ?_))))))))
        refine ⟨bf,bp,x,p,kk,rfl,Ll hF fun i hi=>(U5 hr i (by omega)).symm,hx0,hpb,H.sub (fun y hy=>?_) ?_⟩
        ·simp only [List.mem_cons,List.not_mem_nil,or_false] at hy
         rcases hy with rfl | rfl
         ·exact List.mem_of_getElem? (i:=0) rfl
         ·exact List.mem_of_getElem? (i:=4) rfl
        ·simp only [List.pairwise_cons,List.mem_singleton,forall_eq,List.not_mem_nil,false_imp_iff,implies_true,List.Pairwise.nil,and_true]
         exact H.ne at0 at4 (by decide)
       ·intro h3
        replace h3:=AG h3
        omega
      ·skip
       refine Au (An (Af (Ad rfl rfl (Be rfl rfl rfl (by omega) (by omega) ?_))))
       rw [show ((j+1:Nat):Int) - 1=(j:Int) by omega]
       refine Ae rfl rfl (Ab (Aa (Af (Ad rfl rfl (AZ rfl rfl rfl (Ab (Aa (Aq _ rfl ?_ ?_))))))))
       ·intro h3
        replace h3:=AF h3
        omega
       ·intro h3
        replace h3:=AG h3
        have hF1:=MS hF (cap':=FK es j) fun i _=>Oi es j i
        obtain ⟨x1,hx1⟩:∃ x1,x1=Jo g (FK es j) x p:=⟨_,rfl⟩
        refine Ao (Aa (Af (A2 rfl rfl (B6 rfl Cm BQ rfl H at6 rfl (Ad rfl rfl (Am rfl Z8 (W9 (bf:=bf) (bo:=bo) (ae:=some ⟨q,0,none⟩) (Ctx.lend (L1:=[_,_,_]) (L2:=[_,_,_,_]) H) O (H.get at3) (Ga (L:=[_,_,_]) H.nd (x:=(bs,_)) (List.mem_of_getElem? (i:=0) rfl)) (H.get at4) (Ga (L:=[_,_,_]) H.nd (x:=(bp,_)) (List.mem_of_getElem? (i:=1) rfl)) (R.ext0 H.ext) (fun hne hm=>by have h7:=Rd.lt R hne (fun x _=>⟨_,rfl⟩) (by decide); have h8:=(Ctx.left (L:=[_,_,_]) (L':=[_,_,_,_]) H).own; obtain ⟨y,hy,he⟩:=List.mem_map.1 hm; rcases h8 y hy with h | h; cases h; omega) hr (by omega) (fun i _=>Oi es j i) (by rw [← hg]; exact hF) (by rw [← hg]; exact hx0) hov hpb) rfl ?_))))))
        rintro rv w ⟨rfl,full',O',H2⟩
        rw [← hg] at H2
        replace H:=Ctx.back (L1:=[_,_,_]) (L2:=[_,_,_,_]) H H2
        refine Ab (Aa (Au ?_))
        rw [← hx1] at hF1 H
        refine Bf 110680464442257309696 (α:=FSt) (fun _=>[]) (fun t w'=>Fine g (FK es j) t.x t.p∧(∀ v,v<N→t.ov v=BA g t.x v)∧(∀ v,v<N → -1073741824≤t.p v∧t.p v≤1073741824)∧Ctx w0 [] w' [(bf,Bl 2 (BE (t.x) es.length)),(bo,Bl 2 (BE (t.ov) N)),(q,Bl 92 full'),(bs,Bl 170 (SC N (some ⟨q,0,none⟩) es.length ce bf bp bo t.kk)),(bp,Bl 2 (BE (t.p) N)),(b2,Bl 31 [.slice none 0 0,.slice none 0 0]),(b1,Bl 28 [.int .i64 (N:Int),.slice a es.length c])]) (fun t=>(GR g t.x).toNat) ⟨x1,p,BA g x1,kk⟩ rfl ?_ ?_ ?_
        ·exact trivial
        ·exact ⟨hF1,fun _ _=>rfl,hpb,H⟩
        ·rintro ⟨x,p,ov,kk⟩ jj2 w ⟨hF,hov,hpb,H⟩; dsimp only at hF hov hpb H; dsimp only
         refine An (Af (A2 rfl rfl ?_))
         have Hq:=H.perm perm5
         refine Am rfl Z9 (Ab5 (bs:=bs) (bf:=bf) (bp:=bp) (bo:=bo) (N:=N) (n:=es.length) (ae:=some ⟨q,0,none⟩) (ce:=ce) (es:=esC es (FK es j)) (g:=g) (cap:=FK es j) (I7 es _) (by rw [grE_C,← hg]) (fun i hi=>Abv hi) (Ctx.lend (L1:=[_,_,_,_,_]) (L2:=[_,_]) Hq) O' (TF hr (Mc hr j)) hF hov hpb) rfl ?_
         rintro rv w ⟨b,x',p',ov',kk',rfl,H2,hF',hov',hpb',hb0,hb1⟩
         replace H:=(Ctx.back (L1:=[_,_,_,_,_]) (L2:=[_,_]) Hq H2).perm perm5.symm
         refine Ab (Aa (Aq _ rfl ?_ ?_))
         ·intro h4
          refine Ao (Aa (Au (Ao (A5 (Aa ?_)))))
          have h5:=hb1 h4
          have h6:=Ut g x'
          exact ⟨⟨x',p',ov',kk'⟩,rfl,trivial,⟨hF',hov',hpb',H⟩,by dsimp only; omega⟩
         ·intro h4
          refine Bc (Ak (Ak (AD (A5 (Aa ?_)))))
          have hz:∀ v,v<N→BA g x' v=0:=fun v hv=>Q2 hgo (fun u hu=>hb0 h4 u (by omega)) v (by omega)
          exact ⟨⟨j,full',x',p',ov',kk'⟩,rfl,⟨rfl,trivial⟩,⟨by dsimp only; omega,O',hF',hz,fun v hv=>(hov' v hv).trans (hz v hv),hpb',H⟩,by dsimp only; omega⟩

end Go.Proofs.YtapphbmlkdhnmaaGreat

/- Whether what flows is the best: plain law; rounds as they lie in memory. -/
namespace Go.Proofs.YtapphbmlkdhnmaaGreat
open Go.GV
attribute [local irreducible] AL W Wq Wt

theorem TS {N:Int} {es:List Ed} {pot:List Int} (hr:Cb N es=true) {k:Nat} (hk:k<2*es.length):Q4 N es pot (k:Int)=(grE N es).len (EF pot) k:=by
 obtain ⟨e,he,hE,-⟩:=Ma hr hk
 unfold Q4 Gr.len Gr.c Gr.u Gr.v
 rw [hE]
 unfold Fj
 rcases Nat.mod_two_eq_zero_or_one k with h | h
 ·rw [if_pos h,if_pos h,if_pos h,Nn he,Nl he,Nm he,if_neg (by omega)]; rfl
 ·rw [if_pos h,if_neg (show ¬ k % 2=0 by omega),if_neg (show ¬ k % 2=0 by omega),if_neg (show ¬ k % 2=0 by omega),Nn he,Nl he,Nm he]; rfl
theorem Rg {N:Int} {es:List Ed} {fl:List Int} (hw:BG N es fl=true) {k:Nat} (hk:k<2*es.length):JQ N es fl (k:Int)=CI (Co es) (flE fl) k:=by
 obtain ⟨e,x,he,hx,hro,-⟩:=Mb hw hk
 rw [hro]
 unfold Jp CI Co flE
 rw [Bn he,Bn hx]
 rcases Nat.mod_two_eq_zero_or_one k with h | h
 ·rw [if_neg (by omega),if_pos h]
 ·rw [if_pos h,if_neg (by omega)]
theorem Xt {N:Int} {es:List Ed} {fl:List Int} (hw:BG N es fl=true) (h:∀ v,v<N.toNat→BA (grE N es) (flE fl) v=0):Es N es fl=true:=by
 unfold Es JR
 rw [hw,Bool.true_and,List.all_eq_true]
 intro x hx
 obtain ⟨i,hi⟩:=List.mem_iff_getElem?.1 hx
 obtain ⟨h1,rfl⟩:=Li hi
 exact decide_eq_true (h i h1)
/-- What is accepted: what flows, whole numbers of the nodes, none too great, and they fit. -/
theorem JG {N:Int} {es:List Ed} {fl pot:List Int}:Ff N es fl pot=true↔Es N es fl=true∧EU N pot=true∧Fine (grE N es) (Co es) (flE fl) (EF pot):=by
 have hE:(grE N es).E=es.length:=rfl
 unfold Ff
 simp only [Bool.and_eq_true]
 constructor
 ·rintro ⟨hr,hf,hp,ht⟩
  have hw:=(Gj hf).1
  obtain ⟨hl,-,hin⟩:=BZ hw
  refine ⟨hf,hp,fun i hi=>?_,fun a ha hro=>?_⟩
  ·rw [hE] at hi
   obtain ⟨e,he⟩:=A0 hi
   obtain ⟨x,hx⟩:=A0 (l:=fl) (i:=i) (by omega)
   unfold flE Co
   rw [Bn he,Bn hx]
   exact hin i e x he hx
  ·rw [hE] at ha
   have h1:=List.all_eq_true.1 ht a (List.mem_range.2 ha)
   unfold Ft at h1
   rw [TS hr ha,Rg hw ha,decide_eq_true hro,Bool.and_true,Bool.not_eq_true',decide_eq_false_iff_not] at h1
   omega
 ·rintro ⟨hf,hp,hF⟩
  have hw:=(Gj hf).1
  obtain ⟨hl,hr,hin⟩:=BZ hw
  refine ⟨hr,hf,hp,List.all_eq_true.2 fun a ha=>?_⟩
  rw [List.mem_range] at ha
  unfold Ft
  rw [TS hr ha,Rg hw ha,Bool.not_eq_true']
  by_cases h:0<CI (Co es) (flE fl) a
  ·rw [decide_eq_false (by have:=hF.fit a ha h; omega),Bool.false_and]
  ·rw [decide_eq_false h,Bool.and_false]
/-- What is told by the solver is accepted. -/
theorem SK {N:Nat} {es:List Ed} {x p:Nat→Int} (hr:Cb (N:Int) es=true) (hF:Fine (grE (N:Int) es) (Co es) x p) (ho:∀ v,v<N→BA (grE (N:Int) es) x v=0) (hp:∀ v,v<N → -1073741824≤p v∧p v≤1073741824):Ff (N:Int) es (tab x es.length) (tab p N)=true:=by
 have hx:∀ i,i<es.length→flE (tab x es.length) i=x i:=fun i hi=>Yp hi
 have hq:∀ v,v<N→EF (tab p N) v=p v:=fun v hv=>Bn (BN hv)
 have hw:BG (N:Int) es (tab x es.length)=true:=by
  unfold BG
  rw [hr,CQ,decide_eq_true rfl]
  refine List.all_eq_true.2 fun b hb=>?_
  obtain ⟨i,hi⟩:=List.mem_iff_getElem?.1 hb
  have hl:=Cr hi
  rw [List.length_zipWith,CQ] at hl
  obtain ⟨e,he⟩:=A0 (l:=es) (i:=i) (by omega)
  rw [Kf he (BN (f:=x) (by omega))] at hi
  injection hi with hi
  have h1:=hF.in' i (by show i<es.length; omega)
  unfold Co at h1
  rw [Bn he] at h1
  rw [← hi]
  show inB e (x i)=true
  unfold inB
  rw [decide_eq_true h1.1,decide_eq_true h1.2]; rfl
 refine JG.2 ⟨Xt hw fun v hv=>?_,?_,Na (GY hr) (Xs hF hx) hq⟩
 ·rw [Ke hx]
  exact ho v hv
 ·unfold EU
  rw [CQ,decide_eq_true rfl,Bool.and_true,List.all_eq_true]
  intro y hy
  obtain ⟨i,hi⟩:=List.mem_iff_getElem?.1 hy
  obtain ⟨h1,rfl⟩:=Li hi
  have:=hp i h1
  unfold JJ
  rw [Bool.and_eq_true,decide_eq_true_eq,decide_eq_true_eq]
  omega
theorem Xu {ds es:List Du} (h:WI ds es) (hs:(es.map (·.id)).Pairwise (·<·)):ds=es:=by
 obtain ⟨hp,hd⟩:=h
 induction es generalizing ds with
 | nil=>exact hp.eq_nil
 | cons e es ih =>
  cases ds with
  | nil=>exact absurd hp.symm.eq_nil (by simp)
  | cons d ds =>
   rw [List.map_cons,List.pairwise_cons] at hs hd
   have hde:d=e:=by
    rcases List.mem_cons.1 (hp.mem_iff.1 (List.mem_cons_self ..)) with h | h
    ·exact h
    ·rcases List.mem_cons.1 (hp.mem_iff.2 (List.mem_cons_self ..)) with h2 | h2
     ·exact h2.symm
     ·have h3:=hs.1 d.id (List.mem_map_of_mem (f:=fun d:Du=>d.id) h)
      have h4:=hd.1 e.id (List.mem_map_of_mem (f:=fun d:Du=>d.id) h2)
      omega
   subst hde
   rw [ih hs.2 (List.Perm.cons_inv hp) hd.2]

/-! ### Rounds in memory -/
structure Rnd where
 no:Int
 day:Int
 cmp:Bool
 ids:List Int
 N:Int
 es:List Ed
 fl:List Int
 pot:List Int
structure RSl where
 aI:Option Addr
 cI:Nat
 aE:Option Addr
 cE:Nat
 aF:Option Addr
 cF:Nat
 aP:Option Addr
 cP:Nat
abbrev Br (r:Rnd) (q:RSl):List Value:=[.int .u64 r.no,.int .i64 r.day,.bool r.cmp,.slice q.aI r.ids.length q.cI,.int .i64 r.N,.slice q.aE r.es.length q.cE,.slice q.aF r.fl.length q.cF,.slice q.aP r.pot.length q.cP]
structure RAt (w:World) (r:Rnd) (q:RSl):Prop where
 I:Rd w q.aI 1 U1 r.ids
 E:Rd w q.aE 4 Cw r.es
 F:Rd w q.aF 1 I1 r.fl
 P:Rd w q.aP 1 I1 r.pot
 fc:r.fl.length≤q.cF
/-- A round's blocks are none of these. -/
structure ROff (q:RSl) (r:Rnd) (S:Nat→Prop):Prop where
 I:r.ids≠[]→¬ S (adr q.aI).block
 E:r.es≠[]→¬ S (adr q.aE).block
 F:r.fl≠[]→¬ S (adr q.aF).block
 P:r.pot≠[]→¬ S (adr q.aP).block
theorem RAt.ext {w w':World} {r:Rnd} {q:RSl} {S:List Nat} (h:RAt w r q) (he:Ext S w w') (hn:ROff q r (·∈S)):RAt w' r q :=
 ⟨h.I.ext' he hn.I,h.E.ext' he hn.E,h.F.ext' he hn.F,h.P.ext' he hn.P,h.fc⟩
theorem RAt.ext0 {w w':World} {r:Rnd} {q:RSl} (h:RAt w r q) (he:Ext [] w w'):RAt w' r q:=h.ext he ⟨fun _=>by simp,fun _=>by simp,fun _=>by simp,fun _=>by simp⟩
theorem ROff.mono {q:RSl} {r:Rnd} {S S':Nat→Prop} (h:ROff q r S) (hs:∀ x,S' x→S x):ROff q r S':=⟨fun g k=>h.I g (hs _ k),fun g k=>h.E g (hs _ k),fun g k=>h.F g (hs _ k),fun g k=>h.P g (hs _ k)⟩
theorem RAt.lt {w:World} {r:Rnd} {q:RSl} (h:RAt w r q):ROff q r (fun x=>w.heap.size≤x) :=
 ⟨fun g=>Nat.not_le.2 (h.I.lt' (fun _ _=>rfl) (by decide) g),fun g=>Nat.not_le.2 (h.E.lt' (fun _ _=>rfl) (by decide) g),fun g=>Nat.not_le.2 (h.F.lt' (fun _ _=>rfl) (by decide) g),fun g=>Nat.not_le.2 (h.P.lt' (fun _ _=>rfl) (by decide) g)⟩
/-- Accounts, to be read. -/
def AcAt (w:World) (t:TypeId) (bx:Nat) (acs:List Ac):Prop:=∃ a c,w.heap[bx]? = some (Bl t [.slice a acs.length c])∧Rd w a 2 CB acs
def DuAt (w:World) (bd:Nat) (ds:List Du):Prop:=∃ b nx o,w.heap[bd]? = some (Bl 123 (DU b nx))∧w.heap[b]? = some o∧D8 .u64 (dm ds) o
theorem AcAt.ext0 {w w':World} {t:TypeId} {bx:Nat} {acs:List Ac} (h:AcAt w t bx acs) (he:Ext [] w w'):AcAt w' t bx acs:=by
 obtain ⟨a,c,h1,h2⟩:=h
 exact ⟨a,c,he.to h1 (by simp),h2.ext0 he⟩
theorem DuAt.ext0 {w w':World} {bd:Nat} {ds:List Du} (h:DuAt w bd ds) (he:Ext [] w w'):DuAt w' bd ds:=by
 obtain ⟨b,nx,o,h1,h2,h3⟩:=h
 exact ⟨b,nx,o,he.to h1 (by simp),he.to h2 (by simp),h3⟩
theorem Ih {bx:Nat} {acs:List Ac} (ha:DB acs=0) (w:World) (A:AcAt w 116 bx acs) :
  Ret Tryz.prog 26 #[ptr bx] w fun v w'=>Ext [] w w'∧∃ a c,v = .slice a (acs.map Ce).length c∧Rd w' a 1 I1 (acs.map Ce):=by
 obtain ⟨h1,h2,-⟩:=Dy.1 ha
 obtain ⟨a,c,g1,g2⟩:=A
 refine Ret.mono (WN a acs.length c acs w g1 g2 rfl (by omega) h2) fun v w' F=>⟨F.ext,?_⟩
 obtain ⟨a',n',c',f',rfl,O,hb⟩:=F.ex
 obtain rfl:=O.num
 exact ⟨a',c',rfl,O.rd1 fun x hx=>(hb x hx).1⟩
theorem FI {bd:Nat} {ds:List Du} {nx:Int} (hd:ofC ds nx=0) (w:World) (D:DuAt w bd ds) :
  Ret Tryz.prog 18 #[ptr bd] w fun v w'=>Ext [] w w'∧∃ a c,v = .slice a ds.length c∧Rd w' a 7 Cf ds:=by
 obtain ⟨h1,-,h3,-⟩:=D7.1 hd
 obtain ⟨b,nx',o,g1,g2,g3⟩:=D
 refine Ret.mono (WJ w g1 g2 g3 (QV hd) (by omega)) ?_
 rintro v w' ⟨ds',hS,F⟩
 obtain rfl:=Xu hS (Js h3).2.1
 refine ⟨F.ext,?_⟩
 obtain ⟨a',n',c',f',rfl,O,hb⟩:=F.ex
 obtain rfl:=O.numN (fun _ _=>rfl) (by decide)
 exact ⟨a',c',rfl,OS.rd O (fun x hx=>(hb x hx).1) (fun _ _=>rfl) (by decide)⟩
end Go.Proofs.YtapphbmlkdhnmaaGreat
