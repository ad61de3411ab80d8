/- Part 6 of the proof. -/
import Derived.Test.YtapphbmlkdhnmaaGreatPart2
import Derived.Test.YtapphbmlkdhnmaaGreatPart5
import Derived.Test.YtapphbmlkdhnmaaGreatPart3
/- The solver: where there is over, what is nearest, numbers raised: the walks. -/
namespace Go.Proofs.YtapphbmlkdhnmaaGreat
open Go.GV
attribute [local irreducible] AL W Wq Wt

abbrev SC (N:Nat) (ae:Option Addr) (n ce bf bp bo:Nat) (k:Int):List Value:=[.int .i64 (N:Int),.slice ae n ce,.slice (some ⟨bf,0,none⟩) n n,.slice (some ⟨bp,0,none⟩) N N,.slice (some ⟨bo,0,none⟩) N N,.int .i64 k]
def Hj (ov:Nat→Int) (N:Nat):List Nat:=(List.range N).filter fun v=>decide (0<ov v)
theorem Og (ov:Nat→Int) (i:Nat):Hj ov (i+1)=Hj ov i++if 0<ov i then [i] else []:=by
 unfold Hj
 rw [List.range_succ,List.filter_append]
 congr 1
 by_cases h:0<ov i <;> simp [h]
theorem W1 (ov:Nat→Int) (i:Nat):(Hj ov i).length≤i:=by
 have:=List.length_filter_le (fun v=>decide (0<ov v)) (List.range i)
 rw [List.length_range] at this
 exact this
abbrev iN (v:Nat):Value := .int .i64 (v:Int)
structure LSt where
 i:Nat
 a:Option Addr
 c:Nat
 full:List Value

section
variable {w:World} {bs:Nat} {N:Nat} {ae:Option Addr} {n ce bf bp bo:Nat} {k:Int} {ov:Nat→Int}

set_option maxRecDepth 20000 in
theorem Sr (hs:w.heap[bs]? = some (Bl 170 (SC N ae n ce bf bp bo k))) (ho:w.heap[bo]? = some (Bl 2 (BE ov N))) (hN:N≤1000000) :
  Ret Tryz.prog 166 #[ptr bs] w fun v w'=>Fresh w w' 3 1 v ((Hj ov N).map iN):=by
 obtain ⟨w0,rfl⟩:∃ w0,w0=w:=⟨_,rfl⟩
 have H:=Ctx.start w0 []
 have R:=Cs ho
 refine A9 (fn:=Tryz.f166) Tryz.func166 rfl [.pointer (some ⟨bs,0,none⟩)] rfl (by kernel_rfl) ?_
 refine Af (Az rfl rfl (Ab (Aa (Af (Az rfl rfl (Ab (Aa (An (Af (A2 rfl rfl (AJ rfl rfl ?_)))))))))))
 refine Ah rfl Gf rfl (Bb rfl BX rfl ((by rw [Ay hs]; rfl)) ?_)
 refine AV rfl AO rfl (Ad rfl rfl (Ab (Aa (Au (Bf 8386616 (α:=LSt) (fun t=>[(11,.int .i64 (t.i:Int)),(3,.slice t.a (Hj ov t.i).length t.c)]) (fun t w'=>t.i≤N∧OS t.a (Hj ov t.i).length t.c 1 t.full ((Hj ov t.i).map iN)∧Ctx w0 [] w' (ent t.a 3 t.full)) (fun t=>N - t.i) ⟨0,none,0,[]⟩ rfl ?_ ?_ ?_)))))
 ·exact ⟨rfl,rfl,trivial⟩
 ·exact ⟨Nat.zero_le _,OS.nil,H⟩
 ·rintro ⟨i,a,c,full⟩ j w ⟨hi,O,H⟩; dsimp only at hi O H; dsimp only
  have hpl:=W1 ov i
  refine Af (AZ rfl rfl rfl (Ab (Aa (An (Aq _ rfl ?_ ?_)))))
  ·intro h1
   replace h1:=AF h1
   have hgd:(tab ov N)[i]? = some (ov i):=BN (by omega)
   refine Ao (Aa (An (Au (Af (Ad rfl rfl (Bg rfl AO Bu rfl rfl (by omega) (by omega) ?_))))))
   refine Bb rfl Bt rfl (((R.ext0 H.ext).fld hgd rfl (j:=0) rfl)) ?_
   refine Ae rfl rfl (Ae rfl rfl (Ab (Aa (Af (Ad rfl rfl (Ck rfl rfl rfl (Ab (Aa (Aq _ rfl ?_ ?_)))))))))
   ·intro h2
    replace h2:=AF h2
    have hps:Hj ov (i+1)=Hj ov i++[i]:=by rw [Og,if_pos h2]
    refine Av (Aj rfl rfl (Ad rfl rfl (C3 _ (.int _ _) rfl DX Fs Sm rfl (by decide) (by decide) rfl rfl rfl H ?_)))
    rintro b20 w - H
    refine Cl (L:=[]) rfl DX DX Fs by_3 Sm rfl (by decide) rfl rfl H O rfl (by simp [Bm]) (by omega) ?_
    rintro a' c' full' w H O
    refine Az rfl rfl (Ab (A5 (Aa (Av (Ap rfl rfl rfl (by omega) (by omega) ?_)))))
    refine Ad rfl rfl (Ab (Aa ?_))
    exact ⟨⟨i+1,a',c',full'⟩,rfl,⟨rfl,by dsimp only; rw [hps,List.length_append]; rfl,trivial⟩,⟨by dsimp only; omega,by dsimp only; rw [hps,List.length_append,List.map_append]; exact O,H⟩,by dsimp only; omega⟩
   ·intro h2
    replace h2:=AG h2
    have hps:Hj ov (i+1)=Hj ov i:=by rw [Og,if_neg (by omega),List.append_nil]
    refine Ao (A5 (Aa (Av (Ap rfl rfl rfl (by omega) (by omega) ?_))))
    refine Ad rfl rfl (Ab (Aa ?_))
    exact ⟨⟨i+1,a,c,full⟩,rfl,⟨rfl,by dsimp only; rw [hps]; rfl,trivial⟩,⟨by dsimp only; omega,by dsimp only; rw [hps]; exact O,H⟩,by dsimp only; omega⟩
  ·intro h1
   replace h1:=AG h1
   refine Bc (Ak (Ak (AD (Aa (Af (Aj rfl rfl (Az rfl rfl (Ab (Aa (A8 (AB (v:=(.slice _ _ _)) rfl rfl rfl ?_)))))))))))
   obtain rfl:i=N:=by omega
   exact Ctx.fresh (L:=[]) H O

set_option maxRecDepth 20000 in
theorem Ss {od:Nat} {d:Nat→Int} (hs:w.heap[bs]? = some (Bl 170 (SC N ae n ce bf bp bo k))) (ho:w.heap[bo]? = some (Bl 2 (BE ov N))) (hd:w.heap[od]? = some (Bl 2 (BE d N))) (hN:N≤1000000) :
  Ret Tryz.prog 168 #[ptr bs,.slice (some ⟨od,0,none⟩) N N] w fun v w'=>(∃ to:Int,v = .int .i64 to∧((to = -1∧∀ u,u<N→¬ (ov u<0∧0≤d u))∨∃ x:Nat,x<N∧to=x∧ov x<0∧0≤d x))∧w=w':=by
 obtain ⟨w0,rfl⟩:∃ w0,w0=w:=⟨_,rfl⟩
 have RO:=Cs ho
 have RD:=Cs hd
 refine A9 (fn:=Tryz.f168) Tryz.func168 rfl [.pointer (some ⟨bs,0,none⟩),.slice (some ⟨od,0,none⟩) N N] rfl (by kernel_rfl) ?_
 refine Af (Ae rfl rfl (Ab (Aa (Af (Ae rfl rfl (Ab (Aa (An (Af (Aj rfl rfl (AV rfl AO rfl ?_)))))))))))
 refine Ad rfl rfl (Ab (Aa (Au (Bf 2199023254752 (α:=Nat × Int) (fun t=>[(10,.int .i64 (t.1:Int)),(5,.int .i64 t.2)]) (fun t w'=>w0=w'∧t.1≤N∧((t.2 = -1∧∀ u,u<t.1→¬ (ov u<0∧0≤d u))∨∃ x:Nat,x<N∧t.2=x∧ov x<0∧0≤d x)) (fun t=>N - t.1) (0,-1) rfl ?_ ?_ ?_))))
 ·exact ⟨rfl,rfl,trivial⟩
 ·exact ⟨rfl,Nat.zero_le _,.inl ⟨rfl,fun u h=>absurd h (Nat.not_lt_zero _)⟩⟩
 ·rintro ⟨i,to⟩ j w ⟨rfl,hi,hto⟩; dsimp only at hi hto; dsimp only
  refine Af (AZ rfl rfl rfl (Ab (Aa (An (Aq _ rfl ?_ ?_)))))
  ·intro h1
   replace h1:=AF h1
   have hgd:(tab d N)[i]? = some (d i):=BN (by omega)
   have hgo:(tab ov N)[i]? = some (ov i):=BN (by omega)
   have htd:=CQ d N
   obtain ⟨dx,hdx⟩:∃ dx:Int,0≤to→∃ x:Nat,x<N∧to=x∧(tab d N)[x]? = some dx:=by
    rcases hto with ⟨h,_⟩ | ⟨x,hx,h,_⟩
    ·exact ⟨0,fun h7=>by omega⟩
    ·exact ⟨d x,fun _=>⟨x,hx,h,BN hx⟩⟩
   refine Ao (Aa (An (Au (Af (Ad rfl rfl (AK RD rfl AO Bu rfl rfl (by omega) (by omega) (by omega) ?_))))))
   refine Bb rfl Bt rfl ((RD.fld hgd rfl (j:=0) rfl)) ?_
   refine Ae rfl rfl (Ae rfl rfl (Ab (Aa (Af (BD (α:=Unit) 549755781120 (fun _=>[(38,.bool (decide ((ov i<0∧0≤d i)∧(to<0∨d i<dx))))]) (fun _ w'=>w'=w0) rfl ?_ ?_)))))
   ·refine A2 rfl rfl (AJ rfl rfl (Ah rfl Gf rfl (Bb rfl BX rfl ((by rw [Ay hs]; rfl)) ?_)))
    refine Ad rfl rfl (Bg rfl AO Bu rfl rfl (by omega) (by omega) ?_)
    refine Bb rfl Bt rfl ((RO.fld hgo rfl (j:=0) rfl)) ?_
    refine AZ rfl rfl rfl (Aw rfl rfl (AE 23 rfl ?_ ?_))
    ·intro h1
     replace h1:=AF h1
     refine Ad rfl rfl (Cx rfl rfl rfl (AA rfl rfl (.bool _) rfl (Aw rfl rfl (AE 27 rfl ?_ ?_))))
     ·intro h2
      replace h2:=AF h2
      refine Ad rfl rfl (AZ rfl rfl rfl (Aw rfl rfl (AE 30 rfl ?_ ?_)))
      ·intro h3
       replace h3:=AF h3
       refine Ag rfl (Ag rfl (Ag rfl (Ag rfl (Ag rfl (Ag rfl (AA rfl rfl (.bool _) rfl (AA rfl rfl (.bool _) rfl (Ab ?_))))))))
       exact ⟨rfl,(),rfl,⟨congrArg Value.bool (by clear hgd hgo; rw [Bool.eq_iff_iff]; simp_all; try omega),trivial⟩,rfl⟩
      ·intro h4
       replace h4:=AG h4
       refine Ad rfl rfl (Aj rfl rfl (Ad rfl rfl ?_))
       obtain ⟨x,hx,rfl,hgx⟩:=hdx (by omega)
       refine AK RD rfl AO Bu rfl rfl (by omega) (by omega) (by omega) ?_
       refine Bb rfl Bt rfl (RD.fld hgx rfl (j:=0) rfl) ?_
       refine AZ rfl rfl rfl (A6 rfl rfl (.bool _) rfl (AA rfl rfl (.bool _) rfl (Ab ?_)))
       exact ⟨rfl,(),rfl,⟨congrArg Value.bool (by clear hgd hgo; rw [Bool.eq_iff_iff]; simp_all; try omega),trivial⟩,rfl⟩
     ·intro h5
      replace h5:=AG h5
      refine Ag rfl (Ag rfl (Ag rfl (Ag rfl (Ag rfl (Ag rfl (Ag rfl (Ag rfl (Ag rfl (Ag rfl ?_)))))))))
      refine A6 rfl rfl (.bool _) rfl (Ab ?_)
      exact ⟨rfl,(),rfl,⟨congrArg Value.bool (by clear hgd hgo; rw [Bool.eq_iff_iff]; simp_all; try omega),trivial⟩,rfl⟩
    ·intro h6
     replace h6:=AG h6
     refine Ag rfl (Ag rfl (A6 rfl rfl (.bool _) rfl (Aw rfl rfl (Ag rfl (Ag rfl (Ag rfl (Ag rfl (Ag rfl (Ag rfl ?_)))))))))
     refine Ag rfl (Ag rfl (Ag rfl (Ag rfl (A6 rfl rfl (.bool _) rfl (Ab ?_)))))
     exact ⟨rfl,(),rfl,⟨congrArg Value.bool (by clear hgd hgo; rw [Bool.eq_iff_iff]; simp_all; try omega),trivial⟩,rfl⟩
   rintro - j38 w hw
   subst hw
   refine Aq _ rfl ?_ ?_
   ·intro h2
    have h2:=of_decide_eq_true h2
    refine Av (Ad rfl rfl (Ae rfl rfl (Ab (A5 (Aa (Av (Ap rfl rfl rfl (by omega) (by omega) ?_)))))))
    refine Ad rfl rfl (Ab (Aa ?_))
    exact ⟨(i+1,(i:Int)),rfl,⟨rfl,rfl,trivial⟩,⟨rfl,by dsimp only; omega,.inr ⟨i,by omega,rfl,h2.1⟩⟩,by dsimp only; omega⟩
   ·intro h2
    have h2:=of_decide_eq_false h2
    refine Ao (A5 (Aa (Av (Ap rfl rfl rfl (by omega) (by omega) ?_))))
    refine Ad rfl rfl (Ab (Aa ?_))
    refine ⟨(i+1,to),rfl,⟨rfl,rfl,trivial⟩,⟨rfl,by dsimp only; omega,?_⟩,by dsimp only; omega⟩
    rcases hto with ⟨h,h7⟩ | h
    ·refine .inl ⟨h,fun u hu hh=>?_⟩
     dsimp only at hu
     by_cases e:u=i
     ·subst e; exact h2 ⟨hh,.inl (by omega)⟩
     ·exact h7 u (by omega) hh
    ·exact .inr h
  ·intro h1
   replace h1:=AG h1
   refine Bc (Ak (Ak (AD (Aa (Af (Ad rfl rfl (Ae rfl rfl (Ab (Aa (A8 (AB (v:=(.int _ _)) rfl rfl rfl ?_)))))))))))
   obtain rfl:i=N:=by omega
   exact ⟨⟨to,rfl,hto⟩,rfl⟩

def MY (d:Nat→Int) (D:Int) (v:Nat):Int:=if d v<0∨D<d v then D else d v
def GX (p d:Nat→Int) (D:Int) (i v:Nat):Int:=if v<i then p v+MY d D v else p v

set_option maxRecDepth 20000 in
theorem W3 {od:Nat} {d p:Nat→Int} {D:Int} (hs:w.heap[bs]? = some (Bl 170 (SC N ae n ce bf bp bo k))) (hp:w.heap[bp]? = some (Bl 2 (BE p N))) (hd:w.heap[od]? = some (Bl 2 (BE d N))) (n1:bs≠bp) (n2:od≠bp) (hN:N≤1000000)
  (hD:0≤D∧D≤1152921504606846976) (hpb:∀ v,-1152921504606846976≤p v∧p v≤1152921504606846976) :
  Ret Tryz.prog 171 #[ptr bs,.slice (some ⟨od,0,none⟩) N N,.int .i64 D] w fun v w'=>v = .tuple #[]∧Ctx w [bp] w' [(bp,Bl 2 (BE (fun v=>p v+MY d D v) N))]:=by
 obtain ⟨w0,rfl⟩:∃ w0,w0=w:=⟨_,rfl⟩
 have H:=Ctx.start1 hp
 have n1':bs∉[bp]:=by rw [List.mem_singleton]; exact n1
 have n2':od∉[bp]:=by rw [List.mem_singleton]; exact n2
 have RD:=Cs hd
 refine A9 (fn:=Tryz.f171) Tryz.func171 rfl [.pointer (some ⟨bs,0,none⟩),.slice (some ⟨od,0,none⟩) N N,.int .i64 D] rfl (by kernel_rfl) ?_
 refine Af (Aj rfl rfl (AV rfl AO rfl (Ad rfl rfl (Ab (Aa (Au ?_))))))
 have h0:BE p N=BE (GX p d D 0) N:=List.map_congr_left fun v _=>by unfold GX; rw [if_neg (Nat.not_lt_zero _)]
 rw [h0] at H
 refine Bf 17179868352 (α:=Nat) (fun i=>[(10,.int .i64 (i:Int))]) (fun i w'=>i≤N∧Ctx w0 [bp] w' [(bp,Bl 2 (BE (GX p d D i) N))]) (fun i=>N - i) 0 rfl ?_ ?_ ?_
 ·exact ⟨rfl,trivial⟩
 ·exact ⟨Nat.zero_le _,H⟩
 ·rintro i j w ⟨hi,H⟩
  refine Af (AZ rfl rfl rfl (Ab (Aa (An (Aq _ rfl ?_ ?_)))))
  ·intro h1
   replace h1:=AF h1
   have hgd:(tab d N)[i]? = some (d i):=BN (by omega)
   have hgp:(tab (GX p d D i) N)[i]? = some (p i):=by rw [BN (by omega)]; unfold GX; rw [if_neg (Nat.lt_irrefl _)]
   have hbi:=hpb i
   have hsucc:∀ r,r=MY d D i→Value.int .i64 (p i+r)=Value.int .i64 (GX p d D (i+1) i):=fun r hr=>by unfold GX; rw [if_pos (by omega),hr]
   have hoth:∀ q,q≠i→Value.int .i64 (GX p d D (i+1) q)=Value.int .i64 (GX p d D i q):=fun q hq=>by
    unfold GX
    by_cases h:q<i
    ·rw [if_pos h,if_pos (by omega)]
    ·rw [if_neg h,if_neg (by omega)]
   refine Ao (Aa (An (Au (Af (Ad rfl rfl (Bg rfl AO Bu rfl rfl (by omega) (by omega) ?_))))))
   refine Bb rfl Bt rfl (((RD.ext H.ext n2').fld hgd rfl (j:=0) rfl)) ?_
   refine Ae rfl rfl (Ae rfl rfl (Ab (Aa (An (Af (Ad rfl rfl (AZ rfl rfl rfl (Aw rfl rfl (AE 17 rfl ?_ ?_)))))))))
   ·intro h1
    replace h1:=AF h1
    refine Ag rfl (Ag rfl (Ag rfl (AA rfl rfl (.bool _) rfl (Ab (Aa (Dj rfl (Av (Ad rfl rfl (Ae rfl rfl (Ab (Aa ?_)))))))))))
    refine Av (A2 rfl rfl (AJ rfl rfl (Ah rfl EA rfl (Bb rfl BX rfl ((by rw [Ay (H.ext.to hs n1')]; rfl)) ?_))))
    refine Ad rfl rfl (Bg rfl AO Bu rfl rfl (by omega) (by omega) ?_)
    refine Bb rfl Bt rfl (((Cs (H.get at0)).fld hgp rfl (j:=0) rfl)) ?_
    refine Ad rfl rfl (Ap rfl rfl rfl (by omega) (by omega) ?_)
    refine Bg rfl AO Bu rfl rfl (by omega) (by omega) ?_
    refine BU i (fun q => .int .i64 (GX p d D (i+1) q)) (.int _ _) rfl Bu rfl rfl rfl H at0 (by simp) (by omega) (hsucc _ (by unfold MY; (rw [if_pos (by omega)]; done))).symm (fun q _ hq=>hoth q hq) ?_
    rintro w H
    refine Ab (A5 (Aa (Av (Ap rfl rfl rfl (by omega) (by omega) ?_))))
    refine Ad rfl rfl (Ab (Aa ?_))
    exact ⟨i+1,rfl,⟨rfl,trivial⟩,⟨by omega,H⟩,by omega⟩
   ·intro h2
    replace h2:=AG h2
    refine Ad rfl rfl (Ad rfl rfl (Ck rfl rfl rfl (A6 rfl rfl (.bool _) rfl (Ab (Aa (Aq _ rfl ?_ ?_))))))
    ·intro h3
     replace h3:=AF h3
     refine Av (Ad rfl rfl (Ae rfl rfl (Ab (Aa (Av (A2 rfl rfl (AJ rfl rfl (Ah rfl EA rfl (Bb rfl BX rfl ((by rw [Ay (H.ext.to hs n1')]; rfl)) ?_)))))))))
     refine Ad rfl rfl (Bg rfl AO Bu rfl rfl (by omega) (by omega) ?_)
     refine Bb rfl Bt rfl (((Cs (H.get at0)).fld hgp rfl (j:=0) rfl)) ?_
     refine Ad rfl rfl (Ap rfl rfl rfl (by omega) (by omega) ?_)
     refine Bg rfl AO Bu rfl rfl (by omega) (by omega) ?_
     refine BU i (fun q => .int .i64 (GX p d D (i+1) q)) (.int _ _) rfl Bu rfl rfl rfl H at0 (by simp) (by omega) (hsucc _ (by unfold MY; (rw [if_pos (by omega)]; done))).symm (fun q _ hq=>hoth q hq) ?_
     rintro w H
     refine Ab (A5 (Aa (Av (Ap rfl rfl rfl (by omega) (by omega) ?_))))
     refine Ad rfl rfl (Ab (Aa ?_))
     exact ⟨i+1,rfl,⟨rfl,trivial⟩,⟨by omega,H⟩,by omega⟩
    ·intro h4
     replace h4:=AG h4
     refine Ao (Aa (Av (A2 rfl rfl (AJ rfl rfl (Ah rfl EA rfl (Bb rfl BX rfl ((by rw [Ay (H.ext.to hs n1')]; rfl)) ?_))))))
     refine Ad rfl rfl (Bg rfl AO Bu rfl rfl (by omega) (by omega) ?_)
     refine Bb rfl Bt rfl (((Cs (H.get at0)).fld hgp rfl (j:=0) rfl)) ?_
     refine Ad rfl rfl (Ap rfl rfl rfl (by omega) (by omega) ?_)
     refine Bg rfl AO Bu rfl rfl (by omega) (by omega) ?_
     refine BU i (fun q => .int .i64 (GX p d D (i+1) q)) (.int _ _) rfl Bu rfl rfl rfl H at0 (by simp) (by omega) (hsucc _ (by unfold MY; (rw [if_neg (by omega)]; done))).symm (fun q _ hq=>hoth q hq) ?_
     rintro w H
     refine Ab (A5 (Aa (Av (Ap rfl rfl rfl (by omega) (by omega) ?_))))
     refine Ad rfl rfl (Ab (Aa ?_))
     exact ⟨i+1,rfl,⟨rfl,trivial⟩,⟨by omega,H⟩,by omega⟩
  ·intro h1
   replace h1:=AG h1
   refine Bc (Ak (Ak (AD (Db rfl rfl ?_))))
   obtain rfl:i=N:=by omega
   have h9:BE (GX p d D i) i=BE (fun v=>p v+MY d D v) i:=List.map_congr_left fun v hv=>by unfold GX; rw [if_pos (List.mem_range.1 hv)]
   rw [h9] at H
   exact ⟨rfl,H⟩
end

end Go.Proofs.YtapphbmlkdhnmaaGreat

/- The solver: numbers made anew: the walks. -/
namespace Go.Proofs.YtapphbmlkdhnmaaGreat
open Go.GV
attribute [local irreducible] AL W Wq Wt

/-- The first arcs with room, at their costs. -/
def JK (g:Gr) (cap x:Nat→Int) (k:Nat):List Ar:=((List.range k).filter fun a=>decide (0<CI cap x a)).map fun a=>(g.u a,g.v a,g.c a)
theorem U0 (g:Gr) (cap x:Nat→Int) (k:Nat):JK g cap x (k+1)=JK g cap x k++if 0<CI cap x k then [(g.u k,g.v k,g.c k)] else []:=by
 unfold JK
 rw [List.range_succ,List.filter_append,List.map_append]
 congr 1
 by_cases h:0<CI cap x k <;> simp [h]
theorem W4 {g:Gr} {cap x:Nat→Int} {k m:Nat} (h:k≤m):∀ a∈JK g cap x k,a∈JK g cap x m:=fun a ha=>by
 obtain ⟨b,hb,rfl⟩:=List.mem_map.1 ha
 obtain ⟨h1,h2⟩:=List.mem_filter.1 hb
 exact List.mem_map.2 ⟨b,List.mem_filter.2 ⟨List.mem_range.2 (by have:=List.mem_range.1 h1; omega),h2⟩,rfl⟩
theorem HZ {w:World} {bs:Nat} {t:TypeId} {N:Nat} {ae:Option Addr} {n ce bf bp bo:Nat} {k:Int} (h:w.heap[bs]? = some (Bl t (SC N ae n ce bf bp bo k))):∀ j v,[Value.int .i64 (N:Int),.slice ae n ce][j]? = some v→w.cell? ⟨bs,0+j,none⟩=some v:=fun j v hv=>by
 rw [Ay h,Nat.zero_add]
 match j,hv with
 | 0,hv=>exact hv
 | 1,hv=>exact hv
theorem Yp {x:Nat→Int} {n i:Nat} (h:i<n):flE (tab x n) i=x i:=by
 unfold flE; exact Bn (BN h)
/-- An arc of a net, whole. -/
theorem MZ {N:Nat} {es:List Ed} {x:Nat→Int} (hw:BG (N:Int) es (tab x es.length)=true) {k:Nat} (hk:k<2*es.length) :
  F0 (N:Int) es (k:Int)=(((grE (N:Int) es).u k:Int),((grE (N:Int) es).v k:Int),(grE (N:Int) es).c k)∧JQ (N:Int) es (tab x es.length) (k:Int)=CI (Co es) x k∧(grE (N:Int) es).u k<N∧(grE (N:Int) es).v k<N ∧ -1000≤(grE (N:Int) es).c k∧(grE (N:Int) es).c k≤1000∧0≤CI (Co es) x k∧CI (Co es) x k≤4503599627370496:=by
 obtain ⟨hl,hr,hin⟩:=BZ hw
 obtain ⟨e,he,hE,q1,q2,q3,q4,q5,q6⟩:=Ma hr hk
 obtain ⟨e',xx,he',hx,hro,r1,r2,r3⟩:=Mb hw hk
 obtain rfl:e'=e:=Option.some.inj (he'.symm.trans he)
 obtain ⟨hxk,rfl⟩:=Li hx
 have hce:Co es (k / 2)=e'.cap:=by unfold Co; rw [Bn he]
 have hge:(grE (N:Int) es).f (k / 2)=e'.f.toNat∧(grE (N:Int) es).t (k / 2)=e'.t.toNat∧(grE (N:Int) es).co (k / 2)=e'.cost:=by
  refine ⟨?_,?_,?_⟩ <;> (show _=_; unfold grE; dsimp only; rw [Bn he])
 rw [hE,hro]
 unfold Gr.u Gr.v Gr.c CI Jp
 rw [hge.1,hge.2.1,hge.2.2,hce]
 unfold Fj at q1 q2 q3 q4 q5 q6 ⊢
 by_cases hp:k % 2=1
 ·have hp2:¬ k % 2=0:=by omega
  simp only [if_pos hp] at q1 q2 q3 q4 q5 q6 ⊢
  simp only [if_neg hp2]
  exact ⟨by rw [Int.toNat_of_nonneg q1,Int.toNat_of_nonneg q3],trivial,by omega,by omega,q5,q6,r1,by omega⟩
 ·have hp2:k % 2=0:=by omega
  simp only [if_neg hp] at q1 q2 q3 q4 q5 q6 ⊢
  simp only [if_pos hp2]
  exact ⟨by rw [Int.toNat_of_nonneg q1,Int.toNat_of_nonneg q3],trivial,by omega,by omega,q5,q6,by omega,by omega⟩

section
variable {w:World} {bs:Nat} {N:Nat} {ae:Option Addr} {ce bf bp bo:Nat} {k:Int} {es:List Ed} {x p:Nat→Int}

set_option maxRecDepth 20000 in
set_option maxHeartbeats 4000000 in
theorem Yq (hs:w.heap[bs]? = some (Bl 170 (SC N ae es.length ce bf bp bo k))) (Re:Rd w ae 4 Cw es) (hen:es≠[]→(adr ae).block≠bp) (hf:w.heap[bf]? = some (Bl 2 (BE x es.length))) (hp:w.heap[bp]? = some (Bl 2 (BE p N))) (n1:bs≠bp) (n2:bf≠bp)
  (hw:BG (N:Int) es (tab x es.length)=true) {p0:Nat→Int} (hF:Fine (grE (N:Int) es) (Co es) x p0) :
  Ret Tryz.prog 199 #[ptr bs] w fun v w'=>v = .tuple #[]∧Ctx w [bp] w' [(bp,Bl 2 (BE (ER (JK (grE (N:Int) es) (Co es) x (2*es.length)) N fun _=>0) N))]:=by
 obtain ⟨w0,rfl⟩:∃ w0,w0=w:=⟨_,rfl⟩
 have H:=Ctx.start1 hp
 have n1':bs∉[bp]:=by rw [List.mem_singleton]; exact n1
 have n2':bf∉[bp]:=by rw [List.mem_singleton]; exact n2
 obtain ⟨hwl,hr,-⟩:=BZ hw
 obtain ⟨hN1,hN40,hn200,-⟩:=Cn hr
 have hI:I64 (N:Int):=by unfold I64; omega
 obtain ⟨g,hg⟩:∃ g,g=grE (N:Int) es:=⟨_,rfl⟩
 obtain ⟨cap,hcap⟩:∃ cap,cap=Co es:=⟨_,rfl⟩
 have hat:∀ {a:Nat},a<2*es.length→F0 (N:Int) es (a:Int)=((g.u a:Int),(g.v a:Int),g.c a)∧JQ (N:Int) es (tab x es.length) (a:Int)=CI cap x a∧g.u a<N∧g.v a<N ∧ -1000≤g.c a∧g.c a≤1000∧0≤CI cap x a∧CI cap x a≤4503599627370496:=fun ha=>by
  rw [hg,hcap]; exact MZ hw ha
 rw [← hg,← hcap] at hF ⊢
 obtain ⟨A,hA⟩:∃ A,A=JK g cap x (2*es.length):=⟨_,rfl⟩
 have hgE:g.E=es.length:=by rw [hg]; rfl
 have hAm:∀ b∈A,b.1<N∧b.2.1<N ∧ -1000≤b.2.2:=fun b hb=>by
  rw [hA] at hb
  obtain ⟨a,ha,rfl⟩:=List.mem_map.1 hb
  obtain ⟨-,-,h1,h2,h3,-⟩:=hat (List.mem_range.1 (List.mem_filter.1 ha).1)
  exact ⟨h1,h2,h3⟩
 have hfea:Fea A p0:=by rw [hA,← hgE]; exact Q3 hF
 have hfe2:=Sn hfea fun a ha=>⟨(hAm a ha).1,(hAm a ha).2.1⟩
 have hfb:=T1 (A:=A) (m:=1000) (by omega) (fun a ha=>(hAm a ha).2.2) N
 have hbnd:∀ r k v,-40000≤(JK g cap x k).foldl HO (ER A r fun _=>0) v∨2*es.length<k:=fun r k v=>by
  rcases Nat.lt_or_ge (2*es.length) k with h | h
  ·exact .inr h
  ·refine .inl ?_
   have h1:=Ps (A:=JK g cap x k) (p:=ER A r fun _=>0) (f:=DD A N) (fun a ha=>hfe2 a (by rw [hA]; exact W4 h a ha)) (fun v=>J6 hfe2 (fun v=>by have:=K9 A v (Nat.zero_le N); exact this) r v) v
   have h2:=hfb v
   have h3:(N:Int)*1000≤40000:=by omega
   omega
 have hbnd2:∀ r k v,(JK g cap x k).foldl HO (ER A r fun _=>0) v≤0:=fun r k v=>by
  refine Int.le_trans (KC _ _ v) ?_
  induction r with
  | zero=>exact Int.le_refl _
  | succ r ih=>exact Int.le_trans (KC _ _ v) ih
 rw [← hA]
 refine A9 (fn:=Tryz.f199) Tryz.func199 rfl [.pointer (some ⟨bs,0,none⟩)] rfl (by kernel_rfl) ?_
 refine Af (A2 rfl rfl (AJ rfl rfl (Ah rfl EA rfl (Bb rfl BX rfl ((by rw [Ay hs]; rfl)) ?_))))
 refine NR rfl AO Fa rfl (by simp [Bm]) rfl H at0 (by simp) ?_
 rintro w H
 refine Ab (Aa ?_)
 have hz:over (BE p N) 0 (List.replicate N [Value.int .i64 0]).flatten=BE (ER A 0 fun _=>0) N:=by
  rw [_root_.Go.GV.over_all (by simp)]
  show _=(List.range N).map fun _=>Value.int .i64 0
  rw [← DZ]
  simp
 rw [hz] at H
 refine Af (A2 rfl rfl (AJ rfl rfl (Ah rfl Ge rfl (Ah rfl D5 rfl (Bb rfl BV rfl ((by rw [Ay (H.ext.to hs n1')]; rfl)) ?_)))))
 refine Ad rfl rfl (Ab (Aa (Au (Bf 151115727451828646772860 (α:=Nat) (fun r=>[(16,.int .i64 (r:Int))]) (fun r w'=>r≤N∧Ctx w0 [bp] w' [(bp,Bl 2 (BE (ER A r fun _=>0) N))]) (fun r=>N - r) 0 rfl ?_ ?_ ?_))))
 ·exact ⟨rfl,trivial⟩
 ·exact ⟨Nat.zero_le _,H⟩
 ·rintro r j w ⟨hr2,H⟩
  refine Af (AZ rfl rfl rfl (Ab (Aa (An (Aq _ rfl ?_ ?_)))))
  ·intro h1
   replace h1:=AF h1
   refine Ao (Aa (An (Au (Af (A2 rfl rfl (AJ rfl rfl (Ah rfl E8 rfl (Bb rfl BX rfl ((by rw [Ay (H.ext.to hs n1')]; rfl)) ?_))))))))
   refine AV rfl AO rfl (Dd rfl rfl rfl (by omega) (by omega) ?_)
   refine Ad rfl rfl (Ab (Aa (Au (Bf 75557863725914306642044 (α:=Nat) (fun a=>[(24,.int .i64 (a:Int))]) (fun a w'=>a≤2*es.length∧Ctx w0 [bp] w' [(bp,Bl 2 (BE ((JK g cap x a).foldl HO (ER A r fun _=>0)) N))]) (fun a=>2*es.length - a) 0 rfl ?_ ?_ ?_))))
   ·exact ⟨rfl,trivial⟩
   ·exact ⟨Nat.zero_le _,H⟩
   ·rintro a j2 w ⟨ha2,H⟩
    refine Af (AZ rfl rfl rfl (Ab (Aa (An (Aq _ rfl ?_ ?_)))))
    ·intro h2
     replace h2:=AF h2
     have ha:a<2*es.length:=by omega
     obtain ⟨hE,hR,q1,q2,q3,q4,q5,q6⟩:=hat ha
     obtain ⟨un,hun⟩:∃ un,un=g.u a:=⟨_,rfl⟩
     obtain ⟨vn,hvn⟩:∃ vn,vn=g.v a:=⟨_,rfl⟩
     obtain ⟨co,hco⟩:∃ co,co=g.c a:=⟨_,rfl⟩
     obtain ⟨q,hq⟩:∃ q,q=(JK g cap x a).foldl HO (ER A r fun _=>0):=⟨_,rfl⟩
     have hb1:∀ v,-40000≤q v∧q v≤0:=fun v=>by rw [hq]; exact ⟨(hbnd r a v).resolve_right (by omega),hbnd2 r a v⟩
     have hsucc:(JK g cap x (a+1)).foldl HO (ER A r fun _=>0)=if 0<CI cap x a then HO q (un,vn,co) else q:=by
      rw [U0,List.foldl_append,← hq]
      split
      ·rw [hun,hvn,hco]; rfl
      ·rfl
     rw [← hq] at H
     rw [← hun,← hvn,← hco] at hE
     have hE1:(F0 (N:Int) es (a:Int)).1=un:=by rw [hE]
     have hE2:(F0 (N:Int) es (a:Int)).2.1=vn:=by rw [hE]
     have hE3:(F0 (N:Int) es (a:Int)).2.2=co:=by rw [hE]
     rw [← hun] at q1
     rw [← hvn] at q2
     rw [← hco] at q3 q4
     have b1:=hb1 un
     have b2:=hb1 vn
     have hgu:(tab q N)[un]? = some (q un):=BN q1
     have hgv:(tab q N)[vn]? = some (q vn):=BN q2
     have hne:(es≠[]→(adr ae).block∉[bp]):=fun h=>by rw [List.mem_singleton]; exact hen h
     have hes:es≠[]:=fun h=>by rw [h] at ha; simp at ha
     refine Ao (Aa (An (Au (Af (Ad rfl rfl (Ae rfl rfl (Ab (Aa (Af (A2 rfl rfl (AJ rfl rfl ?_)))))))))))
     refine Ah rfl Ge rfl (Cv _ rfl Cm BQ rfl rfl ((HZ (H.ext.to hs n1'))) ?_)
     refine Ad rfl rfl (Am rfl Se (Py (N:Int) ae es.length ce es _ (Re.ext H.ext (hne hes)) rfl (by omega) hI (a:Int)) rfl ?_)
     rintro v w ⟨rfl,hx33⟩
     replace H:=H.call hx33
     rw [hE1,hE2,hE3]
     refine B9 rfl rfl (A3 rfl rfl rfl (A3 rfl rfl rfl (A3 rfl rfl rfl (Ae rfl rfl (Ae rfl rfl (Ae rfl rfl (Ab (Aa (Af (A2 rfl rfl ?_))))))))))
     refine AJ rfl rfl (Ah rfl EA rfl (Bb rfl BX rfl ((by rw [Ay (H.ext.to hs n1')]; rfl)) ?_))
     refine Ad rfl rfl (Bg rfl AO Bu rfl rfl (by omega) (by omega) ?_)
     refine Bb rfl Bt rfl (((Cs (H.get at0)).fld hgu rfl (j:=0) rfl)) ?_
     refine Ad rfl rfl (Ap rfl rfl rfl (by omega) (by omega) ?_)
     refine Ae rfl rfl (Ab (Aa (DK 19 B0 (by kernel_rfl) rfl rfl ?_)))
     refine AP rfl rfl (BS rfl rfl (Bh rfl rfl (A7 rfl EA rfl (BR rfl BX rfl (by rintro _ rfl; exact ((by rw [Ay (H.drew.ext.to hs n1')]; rfl))) ?_))))
     refine AP rfl rfl (AY rfl AO Bu rfl rfl (by omega) (by omega) ?_)
     refine BR rfl Bt rfl (by rintro _ rfl; exact (((Cs (H.drew.get at0)).fld hgv rfl (j:=0) rfl))) ?_
     refine IH rfl rfl rfl (CW rfl rfl (Dg 55 rfl ?_ ?_))
     ·intro h3
      replace h3:=AF h3
      refine BS rfl rfl (Bh rfl rfl (A7 rfl Ge rfl (FM _ rfl Cm BQ rfl rfl (by rintro _ rfl; exact ((HZ (H.drew.ext.to hs n1')))) ?_)))
      refine BS rfl rfl (Bh rfl rfl (A7 rfl E8 rfl (BR rfl BX rfl (by rintro _ rfl; exact ((by rw [Ay (H.drew.ext.to hs n1')]; rfl))) ?_)))
      refine AP rfl rfl (BJ ?_)
      replace H:=H.drew
      refine Am rfl Sc (Pz (N:Int) ae (some ⟨bf,0,none⟩) es.length ce es.length es.length es (tab x es.length) _ (Re.ext H.ext (hne hes)) rfl (by omega) hI (Cs (H.ext.to hf n2')) (CQ _ _) (by omega) (a:Int)) rfl ?_
      rintro v w ⟨rfl,hx65⟩
      replace H:=H.call hx65
      rw [hR]
      refine Ck rfl rfl rfl (AA rfl rfl (.bool _) rfl (Ab (Aa (Aq _ rfl ?_ ?_))))
      ·intro h4
       replace h4:=AF h4
       refine Av (A2 rfl rfl (AJ rfl rfl (Ah rfl EA rfl (Bb rfl BX rfl ((by rw [Ay (H.ext.to hs n1')]; rfl)) ?_))))
       refine Ad rfl rfl (Ad rfl rfl (Bg rfl AO Bu rfl rfl (by omega) (by omega) ?_))
       refine BU vn (fun z => .int .i64 (upd q vn (q un+co) z)) (.int _ _) rfl Bu rfl rfl rfl H at0 (by simp) q2 (by rw [CT,Int.add_comm]) (fun z _ hz=>by rw [DG hz]) ?_
       rintro w H
       refine Ab (A5 (Aa (Av (Ap rfl rfl rfl (by omega) (by omega) ?_))))
       refine Ad rfl rfl (Ab (Aa ?_))
       refine ⟨a+1,rfl,⟨rfl,trivial⟩,⟨by omega,?_⟩,by omega⟩
       rw [hsucc,if_pos h4]
       unfold HO
       rw [if_pos (by dsimp only; omega)]
       exact H
      ·intro h4
       replace h4:=AG h4
       refine Ao (A5 (Aa (Av (Ap rfl rfl rfl (by omega) (by omega) ?_))))
       refine Ad rfl rfl (Ab (Aa ?_))
       refine ⟨a+1,rfl,⟨rfl,trivial⟩,⟨by omega,?_⟩,by omega⟩
       rw [hsucc,if_neg (by omega)]
       exact H
     ·intro h3
      replace h3:=AG h3
      refine Ax rfl (Ax rfl (Ax rfl (Ax rfl (Ax rfl (Ax rfl (Ax rfl (Ax rfl (Ax rfl (BJ ?_)))))))))
      replace H:=H.drew
      refine Ag rfl (Ag rfl (A6 rfl rfl (.bool _) rfl (Ab (Aa (CJ rfl (Ao (A5 (Aa (Av (Ap rfl rfl rfl (by omega) (by omega) ?_))))))))))
      refine Ad rfl rfl (Ab (Aa ?_))
      refine ⟨a+1,rfl,⟨rfl,trivial⟩,⟨by omega,?_⟩,by omega⟩
      rw [hsucc]
      split
      ·unfold HO
       rw [if_neg (by dsimp only; omega)]
       exact H
      ·exact H
    ·intro h2
     replace h2:=AG h2
     refine Bc (Ak (Ak (AD (A5 (Aa (Av (Ap rfl rfl rfl (by omega) (by omega) ?_)))))))
     refine Ad rfl rfl (Ab (Aa ?_))
     obtain rfl:a=2*es.length:=by omega
     refine ⟨r+1,rfl,⟨rfl,trivial⟩,⟨by omega,?_⟩,by omega⟩
     rw [← hA] at H
     exact H
  ·intro h1
   replace h1:=AG h1
   refine Bc (Ak (Ak (AD (Db rfl rfl ?_))))
   obtain rfl:r=N:=by omega
   exact ⟨rfl,H⟩
end

end Go.Proofs.YtapphbmlkdhnmaaGreat

/- The solver: numbers that got too great are made anew: the walk. -/
namespace Go.Proofs.YtapphbmlkdhnmaaGreat
open Go.GV
attribute [local irreducible] AL W Wq Wt

theorem W5 {g:Gr} {cap x p q:Nat→Int} (h:Fine g cap x p) (hq:Fea (JK g cap x (2*g.E)) q):Fine g cap x q:=Wl h hq
theorem Na {g:Gr} (hg:g.Ok) {cap x p q:Nat→Int} (h:Fine g cap x p) (hq:∀ v,v<g.N→q v=p v):Fine g cap x q :=
 ⟨h.in',fun a ha hr=>by
  have:=h.fit a ha hr
  unfold Gr.len at this ⊢
  rw [hq _ (hg.u ha),hq _ (hg.v ha)]; exact this⟩

section
variable {w:World} {bs:Nat} {N:Nat} {ae:Option Addr} {ce bf bp bo:Nat} {k:Int} {es:List Ed} {x p:Nat→Int}

set_option maxRecDepth 20000 in
/-- Behind it numbers fit still, and are small. -/
theorem U2 (hs:w.heap[bs]? = some (Bl 170 (SC N ae es.length ce bf bp bo k))) (Re:Rd w ae 4 Cw es) (hen:es≠[]→(adr ae).block≠bp) (hf:w.heap[bf]? = some (Bl 2 (BE x es.length))) (hp:w.heap[bp]? = some (Bl 2 (BE p N))) (n1:bs≠bp) (n2:bf≠bp)
  (hw:BG (N:Int) es (tab x es.length)=true) (hF:Fine (grE (N:Int) es) (Co es) x p) :
  Ret Tryz.prog 172 #[ptr bs] w fun v w'=>v = .tuple #[]∧∃ p':Nat→Int,Fine (grE (N:Int) es) (Co es) x p'∧(∀ v,v<N → -1073741824≤p' v∧p' v≤1073741824)∧Ctx w [bp] w' [(bp,Bl 2 (BE p' N))]:=by
 obtain ⟨w0,rfl⟩:∃ w0,w0=w:=⟨_,rfl⟩
 have H:=Ctx.start1 hp
 have R:=Cs hp
 obtain ⟨hwl,hr,-⟩:=BZ hw
 obtain ⟨hN1,hN40,hn200,-⟩:=Cn hr
 refine A9 (fn:=Tryz.f172) Tryz.func172 rfl [.pointer (some ⟨bs,0,none⟩)] rfl (by kernel_rfl) ?_
 refine Af (A2 rfl rfl (AJ rfl rfl (Ah rfl EA rfl (Bb rfl BX rfl ((by rw [Ay hs]; rfl)) ?_))))
 refine AV rfl AO rfl (Ad rfl rfl (Ab (Aa (Au (Bf 4193800 (α:=Nat) (fun i=>[(9,.int .i64 (i:Int))]) (fun i w'=>w0=w'∧i≤N∧∀ v,v<i → -1073741824≤p v∧p v≤1073741824) (fun i=>N - i) 0 rfl ?_ ?_ ?_)))))
 ·exact ⟨rfl,trivial⟩
 ·exact ⟨rfl,Nat.zero_le _,fun v h=>absurd h (Nat.not_lt_zero _)⟩
 ·rintro i j w ⟨rfl,hi,hb⟩
  refine Af (AZ rfl rfl rfl (Ab (Aa (An (Aq _ rfl ?_ ?_)))))
  ·intro h1
   replace h1:=AF h1
   have hgp:(tab p N)[i]? = some (p i):=BN (by omega)
   refine Ao (Aa (An (Au (Af (Bg rfl AO Bu rfl rfl (by omega) (by omega) ?_)))))
   refine Bb rfl Bt rfl ((R.fld hgp rfl (j:=0) rfl)) ?_
   refine Ae rfl rfl (Ab (Aa (Af (BD (α:=Unit) 516096 (fun _=>[(18,.bool (decide (p i < -1073741824∨1073741824<p i)))]) (fun _ w'=>w'=w0) rfl ?_ ?_))))
   ·refine Ad rfl rfl (AZ rfl rfl rfl (Aw rfl rfl (AE 15 rfl ?_ ?_)))
    ·intro h1
     replace h1:=AF h1
     refine Ag rfl (Ag rfl (AA rfl rfl (.bool _) rfl (Ab ?_)))
     exact ⟨rfl,(),rfl,⟨congrArg Value.bool (by clear hgp; rw [Bool.eq_iff_iff]; simp_all; try omega),trivial⟩,rfl⟩
    ·intro h2
     replace h2:=AG h2
     refine Ad rfl rfl (Ck rfl rfl rfl (A6 rfl rfl (.bool _) rfl (Ab ?_)))
     exact ⟨rfl,(),rfl,⟨congrArg Value.bool (by clear hgp; rw [Bool.eq_iff_iff]; simp_all; try omega),trivial⟩,rfl⟩
   rintro - j18 w hw
   subst hw
   refine Aq _ rfl ?_ ?_
   ·intro h2
    refine Af (A2 rfl rfl (Am rfl Aav (Yq hs Re hen hf hp n1 n2 hw hF) rfl ?_))
    rintro v w ⟨rfl,H⟩
    refine Ab (Aa (A8 (A1 (Al (Al (A1 (Fp rfl rfl ?_)))))))
    obtain ⟨g,hg⟩:∃ g,g=grE (N:Int) es:=⟨_,rfl⟩
    have hgE:g.E=es.length:=by rw [hg]; rfl
    rw [← hg] at H hF ⊢
    have hAm:∀ b∈JK g (Co es) x (2*es.length),b.1<N∧b.2.1<N ∧ -1000≤b.2.2:=fun b hb=>by
     obtain ⟨a,ha,rfl⟩:=List.mem_map.1 hb
     obtain ⟨-,-,h1,h2,h3,-⟩:=MZ hw (List.mem_range.1 (List.mem_filter.1 ha).1)
     rw [hg]
     exact ⟨h1,h2,h3⟩
    have hfea:Fea (JK g (Co es) x (2*es.length)) p:=by rw [← hgE]; exact Q3 hF
    refine ⟨rfl,_,?_,fun v _=>?_,H⟩
    ·have h7:=Uq hfea fun a ha=>⟨(hAm a ha).1,(hAm a ha).2.1⟩
     rw [← hgE] at h7 ⊢
     exact W5 hF h7
    ·have h7:=Wg hfea (fun a ha=>⟨(hAm a ha).1,(hAm a ha).2.1⟩) (m:=1000) (by omega) (fun a ha=>(hAm a ha).2.2) N v
     omega
   ·intro h2
    have h2:=of_decide_eq_false h2
    refine Ao (A5 (Aa (Av (Ap rfl rfl rfl (by omega) (by omega) ?_))))
    refine Ad rfl rfl (Ab (Aa ?_))
    refine ⟨i+1,rfl,⟨rfl,trivial⟩,⟨rfl,by omega,fun v hv=>?_⟩,by omega⟩
    by_cases e:v=i
    ·subst e; omega
    ·exact hb v (by omega)
  ·intro h1
   replace h1:=AG h1
   refine Bc (Ak (Ak (AD (Db rfl rfl ?_))))
   obtain rfl:i=N:=by omega
   exact ⟨rfl,p,hF,hb,H⟩
end

end Go.Proofs.YtapphbmlkdhnmaaGreat

/- The solver: back along a way: the walks. -/
namespace Go.Proofs.YtapphbmlkdhnmaaGreat
open Go.GV
attribute [local irreducible] AL W Wq Wt

theorem Q9 (s by':Value) (ob:Option Addr) (on oc:Nat) (bs:Nat) (v:Int) (w:World) (hs:s=ptr bs) (hb:by' = .slice ob on oc):Ret Tryz.prog 169 #[s,by',.int .i64 v] w fun r w'=>∃ b3 b4 b5,r = .func (.func 196) #[] #[ptr b4,ptr b5,ptr b3]∧w'.heap[b3]? = some (Bl 168 [ptr bs])∧w'.heap[b4]? = some (Bl 203 [.slice ob on oc])∧w'.heap[b5]? = some (Bl 3 [.int .i64 v])∧w.heap.size≤b3∧w.heap.size≤b4∧w.heap.size≤b5∧b5≠b3∧b5≠b4∧Ext [] w w':=by
 subst hs hb
 obtain ⟨w0,rfl⟩:∃ w0,w0=w:=⟨_,rfl⟩
 have H:=Ctx.start w0 []
 refine A9 (fn:=Tryz.f169) Tryz.func169 rfl [.pointer (some ⟨bs,0,none⟩),.slice ob on oc,.int .i64 v] rfl (by kernel_rfl) ?_
 refine Af (BC rfl _ (.pointer _) rfl rfl H ?_)
 rintro b3 w - H
 refine BC rfl _ (.slice _ _ _) rfl rfl H ?_
 rintro b4 w - H
 refine BC rfl _ (.int _ _) rfl rfl H ?_
 rintro b5 w - H
 refine Df rfl .nilFunc rfl ?_
 refine Ab (Aa (Af (Dn rfl [.pointer _,.pointer _,.pointer _] rfl (Df rfl (.func _ _ _) rfl ?_))))
 refine Ab (Aa (A8 (AB (v:=(.func _ _ _)) rfl rfl rfl ?_)))
 have h3:=H.own _ (List.mem_of_getElem? at2)
 have h4:=H.own _ (List.mem_of_getElem? at1)
 have h5:=H.own _ (List.mem_of_getElem? at0)
 exact ⟨_,_,_,rfl,H.get at2,H.get at1,H.get at0,h3.elim (fun h=>by cases h) id,h4.elim (fun h=>by cases h) id,h5.elim (fun h=>by cases h) id,H.ne at0 at2 (by decide),H.ne at0 at1 (by decide),H.ext⟩

def byO (by':Nat→Int) (v:Nat):Option Nat:=if by' v = -1 then none else some (by' v).toNat
def W6 (g:Gr) (a:Nat):List Value:=[.int .i64 (a:Int),.int .i64 (g.u a:Int)]
/-- What the rounds leave. -/
structure BackK (b3 b4 b5 bs ob:Nat) (N:Nat) (ae:Option Addr) (ce bf bp bo:Nat) (k:Int) (es:List Ed) (by':Nat→Int) (M:Mt) (w:World):Prop where
 h4:w.heap[b4]? = some (Bl 203 [.slice (some ⟨ob,0,none⟩) N N])
 h3:w.heap[b3]? = some (Bl 168 [ptr bs])
 hs:w.heap[bs]? = some (Bl 170 (SC N ae es.length ce bf bp bo k))
 ho:w.heap[ob]? = some (Bl 3 (BE by' N))
 Re:Rd w ae 4 Cw es
 nm:¬ M b5
theorem QA {g:Gr} {cap x p:Nat→Int} {s:Lb} {by':Nat→Option Nat} (hB:Bys g cap x p s by'):∀ {k v:Nat},s.d v ≠ -1→s.h v=k→(DT by' g k v).length=k
 | 0,_,_,_=>rfl
 | k+1,v,hd,hk=>by
  obtain ⟨a,h1,h2,h3⟩:=hB.2 v hd (by omega)
  have hh:=h2.h
  rw [h3,hk] at hh
  rw [(G7 (g:=g) (k:=k) h1).1,List.length_cons,QA hB h2.du (by omega)]

set_option maxRecDepth 20000 in
set_option maxHeartbeats 4000000 in
theorem QB {b3 b4 b5 bs ob:Nat} {N:Nat} {ae:Option Addr} {ce bf bp bo:Nat} {kk:Int} {es:List Ed} {by':Nat→Int} {x p:Nat→Int} {s:Lb} (hw:BG (N:Int) es (tab x es.length)=true) (hB:Bys (grE (N:Int) es) (Co es) x p s (byO by')) (hby:∀ v,by' v = -1∨∃ a:Nat,by' v=(a:Int)∧a<2*es.length) {k v:Nat} (hv:v<N) (hd:s.d v ≠ -1) (hk:s.h v=k) :
  Tm Tryz.prog 196 #[ptr b4,ptr b5,ptr b3] [b5] (fun M w=>BackK b3 b4 b5 bs ob N ae ce bf bp bo kk es by' M w) ((DT (byO by') (grE (N:Int) es) k v).map (W6 (grE (N:Int) es))) (fun w=>w.heap[b5]? = some (Bl 3 [.int .i64 (v:Int)])):=by
 intro l w hS J E hJ0 hJs hEs hK hY
 obtain ⟨M0,hJ0⟩:=hJ0
 obtain ⟨w0,rfl⟩:∃ w0,w0=w:=⟨_,rfl⟩
 have hr:=(BZ hw).2.1
 obtain ⟨hN1,hN40,hn200,-⟩:=Cn hr
 have hI:I64 (N:Int):=by unfold I64; omega
 obtain ⟨g,hg⟩:∃ g,g=grE (N:Int) es:=⟨_,rfl⟩
 have hat:∀ {a:Nat},a<2*es.length→F0 (N:Int) es (a:Int)=((g.u a:Int),(g.v a:Int),g.c a)∧g.u a<N:=fun ha=>by
  rw [hg]; exact ⟨(MZ hw ha).1,(MZ hw ha).2.2.1⟩
 rw [← hg] at hB hY ⊢
 have hlen:((DT (byO by') g k v).map (W6 g)).length=k:=by rw [List.length_map,QA hB hd hk]
 refine A9 (fn:=Tryz.f196) Tryz.func196 rfl [.func (.yield l) #[] #[],.pointer (some ⟨b4,0,none⟩),.pointer (some ⟨b5,0,none⟩),.pointer (some ⟨b3,0,none⟩)] rfl (by kernel_rfl) ?_
 refine Au (Bf 1073741792 (α:=Nat × Nat) (fun _=>[]) (fun t w'=>t.1≤k∧(∃ M,J t.1 M w')∧w'.heap[b5]? = some (Bl 3 [.int .i64 (t.2:Int)])∧t.2<N∧s.d t.2 ≠ -1∧s.h t.2=k - t.1∧(DT (byO by') g k v).drop t.1=DT (byO by') g (k - t.1) t.2) (fun t=>k - t.1) (0,v) rfl ?_ ?_ ?_)
 ·exact trivial
 ·exact ⟨Nat.zero_le _,⟨M0,hJ0⟩,hS,hv,hd,hk,rfl⟩
 ·rintro ⟨i,u⟩ j w ⟨hi,⟨M,hJ⟩,hb5,hun,hdu,hhu,hdrop⟩; dsimp only at hi hJ hb5 hun hdu hhu hdrop; dsimp only
  have KK:=(hK _ _ _ hJ).2
  obtain ⟨w1,rfl⟩:∃ w1,w1=w:=⟨_,rfl⟩
  have H:=Ctx.start1 hb5
  have hgb:(tab by' N)[u]? = some (by' u):=BN hun
  refine An (Af (Bb rfl F9 rfl ((by rw [Ay KK.h4]; rfl)) ?_))
  refine AN rfl BV rfl H at0 rfl (Bg rfl DX Fs rfl rfl (by omega) (by omega) ?_)
  refine Bb rfl BV rfl (((Cs KK.ho).fld hgb rfl (j:=0) rfl)) ?_
  refine Cx rfl rfl rfl (Ab (Aa (Aq _ rfl ?_ ?_)))
  ·intro h1
   replace h1:=AF h1
   have hne:byO by' u≠none:=by unfold byO; rw [if_neg (by omega)]; exact fun h=>by cases h
   have hh0:s.h u≠0:=fun h=>hne (hB.1 u (.inr h))
   obtain ⟨a,ha,hW,hva⟩:=hB.2 u hdu hh0
   have hba:by' u=(a:Int):=by
    unfold byO at ha
    rw [if_neg (by omega)] at ha
    have:=Option.some.inj ha
    omega
   have ha2:a<2*es.length:=by
    rcases hby u with h | ⟨a',h,h7⟩
    ·omega
    ·omega
   obtain ⟨hE,hu2⟩:=hat ha2
   rw [hba] at hgb
   obtain ⟨u2,hu2e⟩:∃ u2,u2=g.u a:=⟨_,rfl⟩
   obtain ⟨v2,hv2e⟩:∃ v2,v2=g.v a:=⟨_,rfl⟩
   obtain ⟨c2,hc2e⟩:∃ c2,c2=g.c a:=⟨_,rfl⟩
   rw [← hu2e,← hv2e,← hc2e] at hE
   rw [← hu2e] at hu2
   have hE1:(F0 (N:Int) es (a:Int)).1=u2:=by rw [hE]
   have hE2:(F0 (N:Int) es (a:Int)).2.1=v2:=by rw [hE]
   have hE3:(F0 (N:Int) es (a:Int)).2.2=c2:=by rw [hE]
   have hki:k - i=(k - (i+1))+1:=by omega
   have hps:=(G7 (g:=g) (k:=k - (i+1)) ha).1
   rw [← hki,← hdrop,← hu2e] at hps
   have hgi:(DT (byO by') g k v)[i]? = some a:=by
    have:=congrArg (·[0]?) hps
    simpa using this
   have hdrop2:(DT (byO by') g k v).drop (i+1)=DT (byO by') g (k - (i+1)) u2:=by
    have:=congrArg List.tail hps
    simpa using this
   refine Ao (Aa (Au (Af (Bb rfl F9 rfl ((by rw [Ay KK.h4]; rfl)) ?_))))
   refine AN rfl BV rfl H at0 rfl (Bg rfl DX Fs rfl rfl (by omega) (by omega) ?_)
   refine Bb rfl BV rfl (((Cs KK.ho).fld hgb rfl (j:=0) rfl)) ?_
   refine Ae rfl rfl (Ab (Aa (Af (Bb rfl E0 rfl ((by rw [Ay KK.h3]; rfl)) ?_))))
   refine AJ rfl rfl (Ah rfl Ge rfl (Cv _ rfl Cm BQ rfl rfl ((HZ KK.hs)) ?_))
   refine Ad rfl rfl (Am rfl Se (Py (N:Int) ae es.length ce es _ KK.Re rfl (by omega) hI (a:Int)) rfl ?_)
   rintro r w ⟨rfl,hx21⟩
   replace H:=H.call hx21
   rw [hE1,hE2,hE3]
   refine B9 rfl rfl (A3 rfl rfl rfl (A3 rfl rfl rfl (A3 rfl rfl rfl (Cy (.int _ _) rfl Fs rfl rfl rfl H at0 (by (simp; done)) ?_))))
   rintro w H
   refine Ab (Aa ?_)
   have hJ1:=hJs _ _ _ _ hJ H.ext
   have hY1:=hY i (W6 g a) M w (by rw [List.getElem?_map,hgi]; rfl) hJ1
   have hb51:=H.get at0
   have hnm:=KK.nm
   have hwv:W6 g a=[.int .i64 (a:Int),.int .i64 (u2:Int)]:=by rw [hu2e]; rfl
   rw [hwv] at hY1
   refine Af (D0 rfl (.func _ _ _) rfl ?_)
   refine Ad rfl rfl (AN rfl BV rfl H at0 rfl (Gd (vs:=[.int .i64 (a:Int),.int .i64 (u2:Int)]) rfl rfl hY1 rfl ?_))
   rintro u' w hu'
   obtain ⟨bb,rfl,hu1,hu0⟩:∃ bb,u' = .bool bb∧(bb=true→(∃ M,J (i+1) M w)∧w.heap[b5]? = some (Bl 3 [.int .i64 (u2:Int)]))∧(bb=false→E w):=hu'.elim (fun h=>⟨true,h.1,fun _=>let ⟨M',h1,h2⟩:=h.2; ⟨⟨M',h1⟩,h2.to hb51 hnm⟩,fun h=>by cases h⟩) (fun h=>⟨false,h.1,(fun h=>by cases h),fun _=>h.2⟩)
   refine B1 rfl rfl (Ab (Aa (Aq _ rfl ?_ ?_)))
   ·intro h2
    replace h2:=Bv h2
    refine A8 (A1 (Al (A1 (Fp rfl rfl ?_))))
    exact .inr (hu0 (by simpa using h2))
   ·intro h2
    replace h2:=Bw h2
    refine Ao (A5 (Aa ?_))
    obtain ⟨hJ2,hb52⟩:=hu1 (by simpa using h2)
    have hh:=hW.h
    rw [hva,← hu2e] at hh
    exact ⟨(i+1,u2),rfl,trivial,⟨by dsimp only; omega,hJ2,hb52,hu2,by dsimp only; rw [hu2e]; exact hW.du,by dsimp only; omega,hdrop2⟩,by dsimp only; omega⟩
  ·intro h1
   replace h1:=AG h1
   have hh0:s.h u=0:=by
    rcases Nat.eq_zero_or_pos (s.h u) with h | h
    ·exact h
    ·obtain ⟨a,ha,-,-⟩:=hB.2 u hdu (by omega)
     exfalso
     unfold byO at ha
     rcases hby u with h7 | ⟨a',h7,-⟩
     ·rw [if_pos h7] at ha; cases ha
     ·omega
   refine Bc (Ak (Ak (AD (Db rfl rfl ?_))))
   obtain rfl:i=k:=by omega
   exact .inl ⟨M,by rw [hlen]; exact hJ⟩

end Go.Proofs.YtapphbmlkdhnmaaGreat

/- Shortest ways: the walk of the whole. -/
namespace Go.Proofs.YtapphbmlkdhnmaaGreat
open Go.GV
attribute [local irreducible] AL W Wq Wt

/-- The blocks that Ways makes, by the operation that makes them. -/
def HA:Nat→List Nat
 | 1=>[0] | 2=>[1,0] | 4=>[3] | 5=>[4,3] | 7=>[6] | 8=>[7,6] | 10=>[9] | 11=>[10,9]
 | 12=>[2,1,0,5,4,3,8,7,6,11,10,9] | 13=>[12,2,1,0,5,4,3,8,7,6,11,10,9] | 15=>[14,13,12,2,1,0,5,4,3,8,7,6,11,10,9] | _=>[]
def LF (i:Nat):Nat:=if i=14 then 11 else 23+i
def U3 (b4 n:Nat) (i:Nat) (B:Nat→Nat):Value :=
 if i=1∨i=4∨i=7∨i=10 then .int .i64 (n:Int) else if i=2∨i=5∨i=8∨i=11 then .slice (some ⟨B i,0,none⟩) n n
 else if i=12 then .agg (FB (B 2) (B 5) (B 8) (B 11) n).toArray else if i=13∨i=14 then ptr (B i) else .pointer (some ⟨b4,0+0,none⟩)
def Eu (n:Nat) (i:Nat):Option ((Nat→Nat)→Obj) :=
 if i=2 then some fun _=>Bl 230 ((List.range n).map fun _ => .slice none 0 0) else if i=5 then some fun _=>Bl 2 (BE (fun _=>0) n) else if i=8∨i=11 then some fun _=>Bl 3 (BE (fun _=>0) n)
 else if i=13 then some fun B=>Bl 224 (FB (B 2) (B 5) (B 8) (B 11) n) else if i=14 then some fun _=>Bl 221 [.pointer none] else none
theorem U4:∀ i j,i<15→j<15→LF i=LF j→i=j:=fun i j hi hj h=>by
 unfold LF at h
 split at h <;> split at h <;> omega
theorem wStab (b4 n:Nat) (i k b:Nat) (B:Nat→Nat) (hi:i<15) (hki:k≠i) (hka:k∉HA i):U3 b4 n i (Jc B k b)=U3 b4 n i B∧∀ ob,Eu n i=some ob→ob (Jc B k b)=ob B:=by
 have h0:Jc B k b i=B i:=FZ (Ne.symm hki)
 have h1:i=12∨i=13→Jc B k b 2=B 2∧Jc B k b 5=B 5∧Jc B k b 8=B 8∧Jc B k b 11=B 11:=fun h=>by
  have:k≠2∧k≠5∧k≠8∧k≠11:=by
   rcases h with rfl | rfl <;> (simp [HA] at hka; omega)
  exact ⟨FZ (Ne.symm this.1),FZ (Ne.symm this.2.1),FZ (Ne.symm this.2.2.1),FZ (Ne.symm this.2.2.2)⟩
 constructor
 ·unfold U3
  by_cases e:i=12
  ·have:=h1 (.inl e)
   subst e
   simp [this]
  ·rw [h0]; simp [e]
 ·intro ob hob
  unfold Eu at hob
  by_cases e:i=13
  ·have:=h1 (.inr e)
   subst e
   simp at hob
   subst hob
   simp [this]
  ·split at hob
   ·cases hob; rfl
   ·split at hob
    ·cases hob; rfl
    ·split at hob
     ·cases hob; rfl
     ·split at hob
      ·cases hob; rfl
      ·cases hob

theorem GY {N:Int} {es:List Ed} (hr:Cb N es=true):(grE N es).Ok:=by
 have h:∀ i,i<es.length→(es.getD i e0).f.toNat<N.toNat∧(es.getD i e0).t.toNat<N.toNat:=fun i hi=>by
  obtain ⟨e,he⟩:=A0 (l:=es) (i:=i) hi
  have:=D6 ((Cn hr).2.2.2.1 e (List.mem_of_getElem? he))
  rw [Bn he]
  omega
 exact ⟨fun i hi=>(h i hi).1,fun i hi=>(h i hi).2⟩
theorem TB {cap x:Nat→Int} {k a:Nat} (h:a∈Et cap x k):a<2*k:=List.mem_range.1 (List.mem_filter.1 h).1
def Nb (i:Nat) (v:Nat):Int:=if v<i then -1 else 0
theorem TC (i:Nat):Nb (i+1) i = -1:=if_pos (by omega)
theorem TD {i q:Nat} (h:q≠i):Nb (i+1) q=Nb i q:=by unfold Nb; split <;> split <;> omega

theorem Yr {P:Program} {e:Env} {w:World} {fn:Func} {R:Value→World→Prop} {t1 t2 t3:Tmp} {v1 v2 v3:Value} (hr:fn.results=#[.tmp t1,.tmp t2,.tmp t3]) (h1:e.g t1=v1) (h2:e.g t2=v2) (h3:e.g t3=v3) (h:Marks e.ds w (R (.tuple #[v1,v2,v3]))):Qc P fn R .ret e w :=
 Marks.mono (fun w h tmps ht=>by
  have q1:=(ht t1).trans h1
  have q2:=(ht t2).trans h2
  have q3:=(ht t3).trans h3
  rw [Array.getD_eq_getD_getElem?] at q1 q2 q3
  exact ⟨_,by simp [results,hr,q1,q2,q3],h⟩) h
theorem Su {L L':List (Nat × Obj)} (h:(L++L').Pairwise (fun x y=>x.1≠y.1)) {x:Nat × Obj} (hx:x∈L):x.1∉L'.map (·.1):=fun hm=>by
 obtain ⟨y,hy,he⟩:=List.mem_map.1 hm
 exact (List.pairwise_append.1 h).2.2 x hx y hy he.symm
theorem Rd.lt {α:Type} {w:World} {a:Option Addr} {s:Nat} {enc:α→List Value} {xs:List α} (R:Rd w a s enc xs) (h:xs≠[]) (hs:∀ x∈xs,∃ v,(enc x)[0]? = some v) (h0:0<s):(adr a).block<w.heap.size:=by
 obtain ⟨x,hx⟩:=A0 (l:=xs) (i:=0) (List.length_pos_iff.2 h)
 obtain ⟨v,hv⟩:=hs x (List.mem_of_getElem? hx)
 exact World.block_lt_of_cell? w ⟨(adr a).block,(adr a).off+0*s+0,none⟩ (R.cell 0 x hx 0 v hv h0)
theorem Ys:(lb0 []).d=fun _ => -1:=by
 funext v
 show (if v∈([]:List Nat) then (0:Int) else -1) = -1
 exact if_neg List.not_mem_nil
structure WSt where
 s:Lb
 a:Option Addr
 hn:Nat
 c:Nat
 full:List Value
 L:List Tg
 D:Int

set_option maxRecDepth 20000 in
set_option maxHeartbeats 8000000 in
theorem Yt (N:Int) (a b p fr:Option Addr) (n c m d q r fc:Nat) (es:List Ed) (fl pot:List Int) (src:List Nat) (w:World) (R:Rd w a 4 Cw es) (hn:es.length=n) (hN:I64 N) (Rf:Rd w b 1 I1 fl) (hm:fl.length=m) (hm2:m≤9223372036854775000) (Rp:Rd w p 1 I1 pot) (hq:pot.length=q) (hq2:q≤9223372036854775000) (Rs:Rd w fr 1 I1 (src.map fun v:Nat=>(v:Int)))
  (hfit:Hs N es fl pot=true) (hsrc:∀ v∈src,v<N.toNat) (hnd:src.Nodup) (hs0:0<src.length) :
  Ret Tryz.prog 167 #[CS N a n c,.slice b m d,.slice p q r,.slice fr src.length fc] w fun v w'=>∃ (od ob:Nat) (s:Lb) (by':Nat→Int),v = .tuple #[.slice (some ⟨od,0,none⟩) N.toNat N.toNat,.slice (some ⟨ob,0,none⟩) N.toNat N.toNat,.int .i64 0]∧Done (LO (grE N es) (Co es) (flE fl) (EF pot)) src N.toNat 2199023256552 s∧Bys (grE N es) (Co es) (flE fl) (EF pot) s (fun v=>if by' v = -1 then none else some (by' v).toNat)∧(∀ v,by' v = -1∨∃ a:Nat,by' v=(a:Int)∧a<2*es.length)∧Ctx w [] w' [(od,Bl 2 (BE s.d N.toNat)),(ob,Bl 3 (BE by' N.toNat))]:=by
 subst hn hm hq
 obtain ⟨w0,rfl⟩:∃ w0,w0=w:=⟨_,rfl⟩
 have H:=Ctx.start w0 []
 refine G5 (fn:=Tryz.f167) Tryz.func167 rfl [CS N a es.length c,.slice b fl.length d,.slice p pot.length r,.slice fr src.length fc] rfl (by kernel_rfl) ?_
 refine Af (BC rfl [.int .i64 N,.slice a es.length c] (.agg _) rfl rfl H ?_)
 rintro b4 w - H
 refine Az rfl rfl (Az rfl rfl (Ae rfl rfl (Ab (Aa (An (Af (B6 rfl Cm BQ rfl H at0 rfl (Aj rfl rfl (Aj rfl rfl (Am rfl Aan (Yk N a b p es.length c fl.length d pot.length r es fl pot _ (R.ext0 H.ext) rfl hN (Rf.ext0 H.ext) rfl hm2 (Rp.ext0 H.ext) rfl hq2) rfl ?_))))))))))
 rintro v w ⟨rfl,hx21⟩
 replace H:=H.call hx21
 refine B1 rfl rfl (Ab (Aa (Aq _ rfl ?_ ?_)))
 ·intro h1
  replace h1:=Bv h1
  rw [hfit] at h1
  cases h1
 ·intro h1
  replace h1:=Bw h1
  have hw:BG N es fl=true:=by unfold Hs at hfit; rw [Bool.and_eq_true] at hfit; exact hfit.1
  obtain ⟨hN1,hN40,hn200,-⟩:=Cn (BZ hw).2.1
  obtain ⟨nn,rfl⟩:∃ nn:Nat,N=(nn:Int):=⟨N.toNat,by omega⟩
  refine Ao (Aa (El 137430566912 (α:=Nat × Nat × Nat × Nat × Nat × Nat) (fun z=>[(11,ptr z.1)]) (fun z w'=>Ctx w0 [] w' [(z.1,Bl 221 [ptr z.2.1]),(z.2.1,Bl 224 (FB z.2.2.1 z.2.2.2.1 z.2.2.2.2.1 z.2.2.2.2.2 nn)),(z.2.2.1,Bl 230 ((List.range nn).map fun _ => .slice none 0 0)),(z.2.2.2.1,Bl 2 (BE (fun _=>0) nn)),(z.2.2.2.2.1,Bl 3 (BE (fun _=>0) nn)),(z.2.2.2.2.2,Bl 3 (BE (fun _=>0) nn)),(b4,Bl 28 [.int .i64 (nn:Int),.slice a es.length c])]) rfl ?_ ?_))
  ·skip
   have hb4:=H.get at0
   refine Vx (n:=15) (anc:=HA) LF (U3 b4 nn) (Eu nn) (show Tryz.prog.follows .mixedOrders=true by kernel_rfl) rfl (by kernel_rfl) ?_ U4 (wStab b4 nn) ?_ ?_
   ·intro k hk
    have:k=0∨k=1∨k=2∨k=3∨k=4∨k=5∨k=6∨k=7∨k=8∨k=9∨k=10∨k=11∨k=12∨k=13∨k=14:=by omega
    simp [HA]
    omega
   ·intro i o e' w' B hi ho hold hsl hx hbl
    have h4:e'.g 4=ptr b4:=(hold 4 fun j hj h=>by
     have h:(4:Nat)=LF j:=h
     unfold LF at h
     split at h <;> omega).trans rfl
    have hc4:w'.heap[b4]? = some (Bl 28 [.int .i64 (nn:Int),.slice a es.length c]):=hx.to (by exact hb4) (by simp)
    have hcs:i=0∨i=1∨i=2∨i=3∨i=4∨i=5∨i=6∨i=7∨i=8∨i=9∨i=10∨i=11∨i=12∨i=13∨i=14:=by omega
    have hpure:∀ {v:Value},Eu nn i=none→U3 b4 nn i (Jc B i 0)=v→AQ LF (U3 b4 nn) (Eu nn) i e' w' B (put e' (some (LF i)) v) w':=fun h1 h2=>⟨0,fun ob h=>(by rw [h1] at h; cases h),.refl _ _,by rw [h2]⟩
    rcases hcs with rfl | rfl | rfl | rfl | rfl | rfl | rfl | rfl | rfl | rfl | rfl | rfl | rfl | rfl | rfl
    ·cases Option.some.inj ho
     exact Ah rfl (by kernel_rfl) h4 (Ab (hpure rfl rfl))
    ·cases Option.some.inj ho
     exact Bb rfl BV (hsl 0 (by simp [HA])) (by rw [Ay hc4]; rfl) (Ab (hpure rfl rfl))
    ·cases Option.some.inj ho
     refine F8 rfl Lg Lh Z0 Abn (hsl 1 (by simp [HA])) (hsl 1 (by simp [HA])) (by omega) (by omega) (by omega) (by omega) (Ctx.start w' []) fun b w2 hb H=>?_
     have hbb:=H.get at0
     rw [show ((nn:Int)).toNat=nn from rfl,DZ] at hbb
     exact Ab ⟨b,fun ob h=>(by obtain rfl:=Option.some.inj h; exact ⟨by omega,hbb⟩),H.ext,rfl⟩
    ·cases Option.some.inj ho
     exact Ah rfl (by kernel_rfl) h4 (Ab (hpure rfl rfl))
    ·cases Option.some.inj ho
     exact Bb rfl BV (hsl 3 (by simp [HA])) (by rw [Ay hc4]; rfl) (Ab (hpure rfl rfl))
    ·cases Option.some.inj ho
     refine F8 rfl AO Bu HN Fa (hsl 4 (by simp [HA])) (hsl 4 (by simp [HA])) (by omega) (by omega) (by omega) (by omega) (Ctx.start w' []) fun b w2 hb H=>?_
     have hbb:=H.get at0
     rw [show ((nn:Int)).toNat=nn from rfl,DZ] at hbb
     exact Ab ⟨b,fun ob h=>(by obtain rfl:=Option.some.inj h; exact ⟨by omega,hbb⟩),H.ext,rfl⟩
    ·cases Option.some.inj ho
     exact Ah rfl (by kernel_rfl) h4 (Ab (hpure rfl rfl))
    ·cases Option.some.inj ho
     exact Bb rfl BV (hsl 6 (by simp [HA])) (by rw [Ay hc4]; rfl) (Ab (hpure rfl rfl))
    ·cases Option.some.inj ho
     refine F8 rfl DX Fs by_3 Sm (hsl 7 (by simp [HA])) (hsl 7 (by simp [HA])) (by omega) (by omega) (by omega) (by omega) (Ctx.start w' []) fun b w2 hb H=>?_
     have hbb:=H.get at0
     rw [show ((nn:Int)).toNat=nn from rfl,DZ] at hbb
     exact Ab ⟨b,fun ob h=>(by obtain rfl:=Option.some.inj h; exact ⟨by omega,hbb⟩),H.ext,rfl⟩
    ·cases Option.some.inj ho
     exact Ah rfl (by kernel_rfl) h4 (Ab (hpure rfl rfl))
    ·cases Option.some.inj ho
     exact Bb rfl BV (hsl 9 (by simp [HA])) (by rw [Ay hc4]; rfl) (Ab (hpure rfl rfl))
    ·cases Option.some.inj ho
     refine F8 rfl DX Fs by_3 Sm (hsl 10 (by simp [HA])) (hsl 10 (by simp [HA])) (by omega) (by omega) (by omega) (by omega) (Ctx.start w' []) fun b w2 hb H=>?_
     have hbb:=H.get at0
     rw [show ((nn:Int)).toNat=nn from rfl,DZ] at hbb
     exact Ab ⟨b,fun ob h=>(by obtain rfl:=Option.some.inj h; exact ⟨by omega,hbb⟩),H.ext,rfl⟩
    ·cases Option.some.inj ho
     refine CE (FB (B 2) (B 5) (B 8) (B 11) nn) rfl Abe Abm ?_ (Ab (hpure rfl rfl))
     show Instr.fill _ _ [(0,e'.g 25),(1,e'.g 28),(2,e'.g 31),(3,e'.g 34)]=_
     rw [show e'.g 25 = .slice (some ⟨B 2,0,none⟩) nn nn from hsl 2 (by simp [HA]),show e'.g 28 = .slice (some ⟨B 5,0,none⟩) nn nn from hsl 5 (by simp [HA]),show e'.g 31 = .slice (some ⟨B 8,0,none⟩) nn nn from hsl 8 (by simp [HA]),show e'.g 34 = .slice (some ⟨B 11,0,none⟩) nn nn from hsl 11 (by simp [HA])]
     rfl
    ·cases Option.some.inj ho
     refine BC rfl (FB (B 2) (B 5) (B 8) (B 11) nn) (.agg _) (hsl 12 (by simp [HA])) rfl (Ctx.start w' []) fun b w2 hb H=>?_
     exact Ab ⟨b,fun ob h=>(by obtain rfl:=Option.some.inj h; exact ⟨by omega,H.get at0⟩),H.ext,rfl⟩
    ·cases Option.some.inj ho
     refine Bj rfl Abl (Ctx.start w' []) fun b w2 hb H=>?_
     exact Ab ⟨b,fun ob h=>(by obtain rfl:=Option.some.inj h; exact ⟨by omega,H.get at0⟩),H.ext,rfl⟩
   ·intro o e' w' B ho A
    have hl4:=Bp hb4
    have hs0:=H.size
    have h9:w.drew.heap.size=w.heap.size:=rfl
    have n14_13:B 14≠B 13:=A.ne 14 13 (by omega) (by omega) (by omega) trivial trivial (by simp [Eu]) (by simp [Eu])
    have n14_2:B 14≠B 2:=A.ne 14 2 (by omega) (by omega) (by omega) trivial trivial (by simp [Eu]) (by simp [Eu])
    have n14_5:B 14≠B 5:=A.ne 14 5 (by omega) (by omega) (by omega) trivial trivial (by simp [Eu]) (by simp [Eu])
    have n14_8:B 14≠B 8:=A.ne 14 8 (by omega) (by omega) (by omega) trivial trivial (by simp [Eu]) (by simp [Eu])
    have n14_11:B 14≠B 11:=A.ne 14 11 (by omega) (by omega) (by omega) trivial trivial (by simp [Eu]) (by simp [Eu])
    have n13_2:B 13≠B 2:=A.ne 13 2 (by omega) (by omega) (by omega) trivial trivial (by simp [Eu]) (by simp [Eu])
    have n13_5:B 13≠B 5:=A.ne 13 5 (by omega) (by omega) (by omega) trivial trivial (by simp [Eu]) (by simp [Eu])
    have n13_8:B 13≠B 8:=A.ne 13 8 (by omega) (by omega) (by omega) trivial trivial (by simp [Eu]) (by simp [Eu])
    have n13_11:B 13≠B 11:=A.ne 13 11 (by omega) (by omega) (by omega) trivial trivial (by simp [Eu]) (by simp [Eu])
    have n2_5:B 2≠B 5:=A.ne 2 5 (by omega) (by omega) (by omega) trivial trivial (by simp [Eu]) (by simp [Eu])
    have n2_8:B 2≠B 8:=A.ne 2 8 (by omega) (by omega) (by omega) trivial trivial (by simp [Eu]) (by simp [Eu])
    have n2_11:B 2≠B 11:=A.ne 2 11 (by omega) (by omega) (by omega) trivial trivial (by simp [Eu]) (by simp [Eu])
    have n5_8:B 5≠B 8:=A.ne 5 8 (by omega) (by omega) (by omega) trivial trivial (by simp [Eu]) (by simp [Eu])
    have n5_11:B 5≠B 11:=A.ne 5 11 (by omega) (by omega) (by omega) trivial trivial (by simp [Eu]) (by simp [Eu])
    have n8_11:B 8≠B 11:=A.ne 8 11 (by omega) (by omega) (by omega) trivial trivial (by simp [Eu]) (by simp [Eu])
    have k14:=A.blk 14 _ (by omega) trivial (show Eu nn 14=some _ from rfl)
    have m14:B 14≠b4:=by have:=k14.2; have h9:w.drew.heap.size=w.heap.size:=rfl; omega
    have k13:=A.blk 13 _ (by omega) trivial (show Eu nn 13=some _ from rfl)
    have m13:B 13≠b4:=by have:=k13.2; have h9:w.drew.heap.size=w.heap.size:=rfl; omega
    have k2:=A.blk 2 _ (by omega) trivial (show Eu nn 2=some _ from rfl)
    have m2:B 2≠b4:=by have:=k2.2; have h9:w.drew.heap.size=w.heap.size:=rfl; omega
    have k5:=A.blk 5 _ (by omega) trivial (show Eu nn 5=some _ from rfl)
    have m5:B 5≠b4:=by have:=k5.2; have h9:w.drew.heap.size=w.heap.size:=rfl; omega
    have k8:=A.blk 8 _ (by omega) trivial (show Eu nn 8=some _ from rfl)
    have m8:B 8≠b4:=by have:=k8.2; have h9:w.drew.heap.size=w.heap.size:=rfl; omega
    have k11:=A.blk 11 _ (by omega) trivial (show Eu nn 11=some _ from rfl)
    have m11:B 11≠b4:=by have:=k11.2; have h9:w.drew.heap.size=w.heap.size:=rfl; omega
    have Hc:Ctx w0 [] w' [(B 14,Bl 221 [.pointer none]),(B 13,Bl 224 (FB (B 2) (B 5) (B 8) (B 11) nn)),(B 2,Bl 230 ((List.range nn).map fun _ => .slice none 0 0)),(B 5,Bl 2 (BE (fun _=>0) nn)),(B 8,Bl 3 (BE (fun _=>0) nn)),(B 11,Bl 3 (BE (fun _=>0) nn)),(b4,Bl 28 [.int .i64 (nn:Int),.slice a es.length c])]:=by
     refine ⟨(H.ext.trans (Ext.drew [] _)).trans A.ext,fun x hx=>?_,?_,fun x hx => .inr ?_⟩
     ·simp only [List.mem_cons,List.not_mem_nil,or_false] at hx
      rcases hx with rfl | rfl | rfl | rfl | rfl | rfl | rfl
      ·exact k14.1
      ·exact k13.1
      ·exact k2.1
      ·exact k5.1
      ·exact k8.1
      ·exact k11.1
      ·exact A.ext.to hb4 (by simp)
     ·simp only [List.pairwise_cons,List.mem_cons,List.not_mem_nil,or_false,forall_eq_or_imp,forall_eq,List.Pairwise.nil,false_imp_iff,implies_true,and_true]
      exact ⟨⟨n14_13,n14_2,n14_5,n14_8,n14_11,m14⟩,⟨n13_2,n13_5,n13_8,n13_11,m13⟩,⟨n2_5,n2_8,n2_11,m2⟩,⟨n5_8,n5_11,m5⟩,⟨n8_11,m8⟩,m11⟩
     ·simp only [List.mem_cons,List.not_mem_nil,or_false] at hx
      have hb40:=(H.own _ (List.mem_cons_self ..)).elim (fun h=>by cases h) id
      rcases hx with rfl | rfl | rfl | rfl | rfl | rfl | rfl
      ·have:=k14.2; dsimp only; omega
      ·have:=k13.2; dsimp only; omega
      ·have:=k2.2; dsimp only; omega
      ·have:=k5.2; dsimp only; omega
      ·have:=k8.2; dsimp only; omega
      ·have:=k11.2; dsimp only; omega
      ·exact hb40
    cases Option.some.inj ho
    exact Cy (ptr (B 13)) rfl Abh (A.slot 14 (by omega) trivial) (A.slot 13 (by omega) trivial) rfl Hc at0 (by decide) fun w2 H2=>Ab ⟨(B 14,B 13,B 2,B 5,B 8,B 11),A.ds,⟨A.slot 14 (by omega) trivial,trivial⟩,H2⟩
  ·rintro ⟨b11,b36,oo,od,oh,ob⟩ j w H; dsimp only at H; dsimp only
   refine An (Af (Ah rfl D5 rfl (AN rfl BV rfl H at6 rfl (Ad rfl rfl (Ab (Aa (Au (Bf 36028247263154176 (α:=Nat) (fun i=>[(39,.int .i64 (i:Int))]) (fun i w'=>i≤nn∧Ctx w0 [] w' [(b11,Bl 221 [ptr b36]),(b36,Bl 224 (FB oo od oh ob nn)),(oo,Bl 230 ((List.range nn).map fun _ => .slice none 0 0)),(od,Bl 2 (BE (Nb i) nn)),(oh,Bl 3 (BE (fun _=>0) nn)),(ob,Bl 3 (BE (Nb i) nn)),(b4,Bl 28 [.int .i64 (nn:Int),.slice a es.length c])]) (fun i=>nn - i) 0 rfl ?_ ?_ ?_))))))))
   ·exact ⟨rfl,trivial⟩
   ·exact ⟨Nat.zero_le _,H⟩
   ·rintro i j2 w ⟨hi,H⟩
    refine Af (AZ rfl rfl rfl (Ab (Aa (An (Aq _ rfl ?_ ?_)))))
    ·intro h2
     replace h2:=AF h2
     refine Ao (Aa (An (Au (Af (Ad rfl rfl (Ae rfl rfl (Ab (Aa (Fq [([0,1,2,3,4,5,6,7,8,9,10],11),([12],13)] (fun z=>z.heap[b11]? = some (Bl 221 [ptr b36])∧z.heap[b36]? = some (Bl 224 (FB oo od oh ob nn))) [13] B0 (by kernel_rfl) (⟨H.drew.get at0,H.drew.get at1⟩) ?_)))))))))
     refine AU rfl rfl ?_
     refine BP rfl Hy rfl (fun _ hx=>(by rw [Ay hx.1]; rfl)) ?_
     refine B3 rfl rfl (AH rfl Eb rfl (BP rfl BX rfl (fun _ hx=>(by rw [Ay hx.2]; rfl)) ?_))
     refine AS rfl rfl (BP rfl Hy rfl (fun _ hx=>(by rw [Ay hx.1]; rfl)) ?_)
     refine B3 rfl rfl (AH rfl Ji rfl (BP rfl F9 rfl (fun _ hx=>(by rw [Ay hx.2]; rfl)) ?_))
     refine AS rfl rfl (AM rfl AO Bu rfl rfl (by omega) (by omega) ?_)
     refine Ba ?_
     replace H:=H.drew
     refine BU i (fun q => .int .i64 (Nb (i+1) q)) (.int _ _) rfl Bu rfl rfl rfl H at3 (by simp) (by omega) (by rw [TC]) (fun q _ hq=>by rw [TD hq]) ?_
     rintro w H
     refine Ab (BL (⟨H.get at0,H.get at1⟩) (AU rfl rfl ?_))
     refine AM rfl DX Fs rfl rfl (by omega) (by omega) ?_
     refine Ba (BU i (fun q => .int .i64 (Nb (i+1) q)) (.int _ _) rfl Fs rfl rfl rfl H at5 (by simp) (by omega) (by rw [TC]) (fun q _ hq=>by rw [TD hq]) ?_)
     rintro w H
     refine Ab (BW rfl (BO (A5 (Aa (Av (Ap rfl rfl rfl (by omega) (by omega) ?_))))))
     refine Ad rfl rfl (Ab (Aa ?_))
     exact ⟨i+1,rfl,⟨rfl,trivial⟩,⟨by omega,H⟩,by omega⟩
    ·intro h2
     replace h2:=AG h2
     obtain rfl:nn=i:=by omega
     have htab:BE (Nb nn) nn=BE (fun _ => -1) nn:=List.map_congr_left fun v hv=>by
      show Value.int _ (Nb nn v)=Value.int _ (-1)
      unfold Nb; rw [if_pos (List.mem_range.1 hv)]
     rw [htab] at H
     have hr:=(BZ hw).2.1
     have hp:EU (nn:Int) pot=true:=by unfold Hs at hfit; rw [Bool.and_eq_true,Bool.and_eq_true] at hfit; exact hfit.2.1
     obtain ⟨g,hg⟩:∃ g,g=grE (nn:Int) es:=⟨_,rfl⟩
     obtain ⟨pf,hpf⟩:∃ pf,pf=EF pot:=⟨_,rfl⟩
     obtain ⟨l,hl⟩:∃ l,l=Et (Co es) (flE fl) es.length:=⟨_,rfl⟩
     have hgo:g.Ok:=by rw [hg]; exact GY hr
     have hlen400:l.length≤400:=by
      rw [hl]; unfold Et
      have:=List.length_filter_le (fun a=>decide (0<CI (Co es) (flE fl) a)) (List.range (2*es.length))
      rw [List.length_range] at this
      omega
     refine Bc (Ak (Ak (AD (Aa (An (Af (B6 rfl Cm BQ rfl H at6 rfl (Aj rfl rfl (Aj rfl rfl ?_)))))))))
     have hb7:=H
     refine Am rfl VH (T9 (nn:Int) a b p es.length c fl.length d pot.length r _) rfl ?_
     rintro v w ⟨x1,x2,x3,rfl,hb1,hb2,hb3,hs1,hs2,hs3,hx58⟩
     replace H:=H.call hx58
     refine Ab (Aa (Au ?_))
     obtain ⟨ws,rfl⟩:∃ z,z=w:=⟨_,rfl⟩
     have hk1:=Bp hb1
     have hk2:=Bp hb2
     have hk3:=Bp hb3
     have hs07:=H.size
     have hoo:=H.get at2
     have HL:=(H.perm (List.perm_middle (l₁:=[_,_]) (l₂:=[_,_,_,_]))).tail
     have hoolt:=Bp hoo
     have hoo7:=Bp (hb7.get at2)
     have hooge:w0.heap.size≤oo:=(H.own (oo,_) (List.mem_of_getElem? (i:=2) rfl)).elim (fun h=>by cases h) id
     obtain ⟨OL,hOL⟩:∃ OL:List (Nat × Obj),OL=[(b11,Bl 221 [ptr b36]),(b36,Bl 224 (FB oo od oh ob nn)),(od,Bl 2 (BE (fun _ => -1) nn)),(oh,Bl 3 (BE (fun _=>0) nn)),(ob,Bl 3 (BE (fun _ => -1) nn)),(b4,Bl 28 [.int .i64 (nn:Int),.slice a es.length c])]:=⟨_,rfl⟩
     have HL':Ctx w0 [] ws OL:=by rw [hOL]; exact HL
     have hOLlt:∀ y∈OL,y.1<ws.heap.size:=fun y hy=>Bp (HL'.blk y hy)
     have hOLoo:∀ y∈OL,y.1≠oo:=fun y hy=>by
      have h9:=H.perm (List.perm_middle (l₁:=[_,_]) (l₂:=[_,_,_,_]))
      rw [hOL] at hy
      exact fun h=>(List.pairwise_cons.1 h9.nd).1 y hy h.symm
     obtain ⟨hD,hhD⟩:∃ hD,hD=ws.heap.size:=⟨_,rfl⟩
     have hM:∀ {w':World} {st:Nat→Slo} {sel:Nat→List Nat},OutR w0 w' oo nn g pf st sel (fun x=>x<ws.heap.size+2)→∀ x,MX oo nn st x→x<w'.heap.size∧x≠ws.heap.size∧x≠ws.heap.size+1:=fun {w' st sel} RO x hx=>by
      rcases hx with rfl | ⟨u,hu,y,hy,rfl⟩
      ·exact ⟨Bp RO.tbl,by omega,by omega⟩
      ·have h1:=RO.blk u hu y hy
       have h2:=Bp h1.1
       have h3:¬ y.1<ws.heap.size+2:=h1.2.2.1
       exact ⟨h2,by omega,by omega⟩
     refine LW (gf:=212) rfl VL (Q6 (b1:=x1) (b2:=x2) (b3:=x3) (a:=a) (b:=b) (p:=p) (c:=c) (d:=d) (r:=r) hw hp) (by kernel_rfl) (by kernel_rfl) (fun v hv=>by obtain ⟨p,-,rfl⟩:=List.mem_map.1 hv; rfl)
      (fun i M w'=>∃ st,M=MX oo nn st∧OutR w0 w' oo nn g pf st (fun u=>HY g (l.take i) u) (fun x=>x<ws.heap.size+2)∧(∀ u,u<nn→(st u).n≤i)∧Ctx w0 [] w' OL∧w'.heap[x1]? = some (Bl 28 [.int .i64 (nn:Int),.slice a es.length c])∧w'.heap[x2]? = some (Bl 29 [.slice p pot.length r])∧w'.heap[x3]? = some (Bl 29 [.slice b fl.length d]))
      (fun _=>False) (by simp)
      (fun w2 hx2 _=>⟨_,fun _=>⟨none,0,0,[]⟩,rfl,⟨hx2.to hoo (by simp),fun u _=>OS.nil,(fun u _ y hy=>by cases hy),(fun u v _ _ _ y hy=>by cases hy)⟩,fun u _=>Nat.le_refl _,HL'.call hx2,hx2.to hb1 (by simp),hx2.to hb2 (by simp),hx2.to hb3 (by simp)⟩)
      (fun i M w' w'' hJ hx=>?_) (fun _ _ h _=>h) (fun i M w' hJ=>?_) ?_ ?_ (fun _ h _=>h.elim)
     ·obtain ⟨st,h1,RO,hni,HJ,g1,g2,g3⟩:=hJ
      refine ⟨st,h1,RO.keep hx fun x hx hm=>?_,hni,HJ.step hx (fun y hy=>?_) fun z hz => .inr ?_,hx.to g1 ?_,hx.to g2 ?_,hx.to g3 ?_⟩
      ·have:=hM RO x hm
       simp only [List.mem_cons,List.not_mem_nil,or_false] at hx
       omega
      ·have:=hOLlt y hy
       simp only [List.mem_cons,List.not_mem_nil,or_false]
       omega
      ·simp only [List.mem_cons,List.not_mem_nil,or_false] at hz
       omega
      ·simp only [List.mem_cons,List.not_mem_nil,or_false]; omega
      ·simp only [List.mem_cons,List.not_mem_nil,or_false]; omega
      ·simp only [List.mem_cons,List.not_mem_nil,or_false]; omega
     ·obtain ⟨st,rfl,RO,hni,HJ,g1,g2,g3⟩:=hJ
      exact ⟨hM RO,g1,g2,g3,R.ext0 HJ.ext,Rf.ext0 HJ.ext,Rp.ext0 HJ.ext⟩
     ·rintro i v _ w hxv ⟨st,rfl,RO,hni,HJ,g1,g2,g3⟩ hsz
      unfold JS at hxv
      rw [List.getElem?_map,← hl,← hg,← hpf] at hxv
      obtain ⟨y,hy,rfl⟩:=Option.map_eq_some_iff.1 hxv
      have hil:=Cr hy
      have hyl:=List.mem_of_getElem? hy
      have hyu:g.u y<nn:=by
       have h1:=hgo.u (a:=y) (by rw [hl] at hyl; have:=TB hyl; rw [hg]; exact this)
       rw [hg] at h1 ⊢
       exact h1
      obtain ⟨w1,rfl⟩:∃ z,z=w:=⟨_,rfl⟩
      have H:=Ctx.start w1 []
      refine Av (Bj rfl Jk H ?_)
      rintro b13 w - H
      refine B5 rfl GO rfl rfl rfl (by exact MV _ _ _) H at0 rfl ?_
      rintro w H
      refine Ab ?_
      refine ⟨H.ext,fun wB hxB=>?_⟩
      have hb13:=(H.own _ (List.mem_cons_self ..)).elim (fun h=>by cases h) id
      have k13:=hxB.to (H.get at0) (by rw [List.mem_singleton]; omega)
      have ROB:=(RO.keep H.ext (fun x hx=>by cases hx)).keep hxB fun x hx hm=>(hM RO x hm).2.2 (List.mem_singleton.1 hx)
      have HB:=(HJ.call H.ext).step hxB (fun y hy=>by have:=hOLlt y hy; rw [List.mem_singleton]; omega) (fun z hz => .inr (by rw [List.mem_singleton.1 hz]; omega))
      have e1:=hxB.to (H.ext.to g1 (by simp)) (by rw [List.mem_singleton]; omega)
      have e2:=hxB.to (H.ext.to g2 (by simp)) (by rw [List.mem_singleton]; omega)
      have e3:=hxB.to (H.ext.to g3 (by simp)) (by rw [List.mem_singleton]; omega)
      have hsB:=hxB.size
      have hsH:=H.ext.size
      have HB':=HB
      rw [hOL] at HB'
      have k11:=HB'.get at0
      have k36:=HB'.get at1
      obtain ⟨u,hu⟩:∃ u,u=g.u y:=⟨_,rfl⟩
      rw [← hu] at hyu
      have hnot:∀ x,x≠oo→(x<ws.heap.size+2∨w1.heap.size≤x)→x∉oo::(Kg (st u)).map (·.1):=fun x h1 h2 h=>by
       rcases List.mem_cons.1 h with h | h
       ·exact h1 h
       ·obtain ⟨z,hz,he⟩:=List.mem_map.1 h
        have q1:=RO.blk u hyu z hz
        have q2:=Bp q1.1
        have q3:¬ z.1<ws.heap.size+2:=q1.2.2.1
        omega
      have hO11:=hOLoo (b11,_) (by rw [hOL]; exact List.mem_of_getElem? (i:=0) rfl)
      have hO36:=hOLoo (b36,_) (by rw [hOL]; exact List.mem_of_getElem? (i:=1) rfl)
      have hl11:=hOLlt (b11,_) (by rw [hOL]; exact List.mem_of_getElem? (i:=0) rfl)
      have hl36:=hOLlt (b36,_) (by rw [hOL]; exact List.mem_of_getElem? (i:=1) rfl)
      have hoo1:=Bp RO.tbl
      dsimp only at hO11 hO36 hl11 hl36
      have n11:=hnot b11 hO11 (.inl (by omega))
      have n36:=hnot b36 hO36 (.inl (by omega))
      have n13:=hnot b13 (by omega) (.inr hb13)
      have hgu:(Ux nn st)[u]? = some (.slice (st u).a (st u).n (st u).c):=D3 hyu
      have hnu:=hni u hyu
      obtain ⟨w2,rfl⟩:∃ z,z=wB:=⟨_,rfl⟩
      replace H:=ROB.ctx hyu
      have hrow:Gl g pf y=[.int .i64 (y:Int),.int .i64 (u:Int),.int .i64 (g.v y:Int),.int .i64 (g.len pf y)]:=by unfold Gl; rw [← hu]
      refine Au (Fq [([0,1,2,3,4,5,6,7,8,9,10,11,12,13,14],15),([],16),([17],18)] (fun z=>z.heap[b11]? = some (Bl 221 [ptr b36])∧z.heap[b36]? = some (Bl 224 (FB oo od oh ob nn))∧z.heap[b13]? = some (Bl 229 (Gl g pf y))∧z.heap[oo]? = some (Bl 230 (Ux nn st))) [18] B0 (by kernel_rfl) (⟨H.drew.ext.to k11 n11,H.drew.ext.to k36 n36,H.drew.ext.to k13 n13,H.drew.get at0⟩) ?_)
      refine AU rfl rfl ?_
      refine BP rfl Hy rfl (fun _ hx=>(by rw [Ay hx.1]; rfl)) ?_
      refine B3 rfl rfl (AH rfl K5 rfl (BP rfl Pm rfl (fun _ hx=>(by rw [Ay hx.2.1]; rfl)) ?_))
      refine AH rfl Qw rfl (BP rfl BV rfl (fun _ hx=>(by rw [Ay hx.2.2.1,hrow]; rfl)) ?_)
      refine BP rfl Hy rfl (fun _ hx=>(by rw [Ay hx.1]; rfl)) ?_
      refine B3 rfl rfl (AH rfl K5 rfl (BP rfl Pm rfl (fun _ hx=>(by rw [Ay hx.2.1]; rfl)) ?_))
      refine AH rfl Qw rfl (BP rfl BV rfl (fun _ hx=>(by rw [Ay hx.2.2.1,hrow]; rfl)) ?_)
      refine AM rfl Lg Lh rfl rfl (by omega) (by omega) ?_
      refine BP rfl Sa rfl (fun _ hx=>(by rw [Ay hx.2.2.2]; simpa using hgu)) ?_
      refine GJ _ rfl RZ GO rfl rfl (fun _ hx=>(HU hx.2.2.1)) ?_
      refine Ba ?_
      replace H:=H.drew
      refine C3 (Gl g pf y) (.agg _) rfl Kc GO Jk rfl (by decide) (by decide) rfl rfl rfl H ?_
      rintro b75 w - H
      refine Ab (BL (⟨H.ext.to k11 n11,H.ext.to k36 n36,H.ext.to k13 n13,H.get at1⟩) (AU rfl rfl ?_))
      refine Ba (Cl (L:=[(oo,_)]) rfl Kc Kc GO Zz Jk rfl (by decide) rfl rfl H (ROB.os u hyu) rfl (MV g pf y) (by omega) ?_)
      rintro a76 c76 f76 w H O76
      refine Ab (BL (⟨H.ext.to k11 n11,H.ext.to k36 n36,H.ext.to k13 n13,H.get at0⟩) (AU rfl rfl ?_))
      refine AM rfl Lg Lh rfl rfl (by omega) (by omega) ?_
      refine Ba (BU u (fun q=>sloV (stS st u ⟨a76,(st u).n+1,c76,f76⟩ q)) (.slice _ _ _) rfl Lh rfl rfl rfl H at0 (by simp) hyu (by rw [GW]; rfl) (fun q _ hq=>by rw [Jr hq]) ?_)
      rintro w H
      refine Ab (BW rfl (BO (A5 ?_)))
      have hss:=Uy (g:=g) hy
      rw [← hu] at hss
      have hO':OS a76 ((st u).n+1) c76 4 f76 ((HY g (l.take (i+1)) u).flatMap (Gl g pf)):=by rw [hss.1,List.flatMap_append]; simpa using O76
      have h02:w0.heap.size≤w2.heap.size:=by omega
      obtain ⟨RO',hnewM⟩:=ROB.step hyu (s:=⟨a76,(st u).n+1,c76,f76⟩) (sel':=fun q=>HY g (l.take (i+1)) q) (fun x hx=>by have hx:x<ws.heap.size+2:=hx; omega) h02 H hO' (fun q hq=>hss.2 q hq)
      have hidM:∀ x∈oo::(Kg (st u)).map (·.1),MX oo nn st x:=fun x hx=>by
       rcases List.mem_cons.1 hx with h | h
       ·exact .inl h
       ·obtain ⟨z,hz,he⟩:=List.mem_map.1 h
        exact .inr ⟨u,hyu,z,hz,he⟩
      refine ⟨_,⟨stS st u ⟨a76,(st u).n+1,c76,f76⟩,rfl,RO',fun q hq=>?_,HB.step H.ext (fun z hz=>hnot z.1 (hOLoo z hz) (.inl (by have:=hOLlt z hz; omega))) (fun z hz => .inr ?_),H.ext.to e1 (hnot x1 (by omega) (.inl (by omega))),H.ext.to e2 (hnot x2 (by omega) (.inl (by omega))),H.ext.to e3 (hnot x3 (by omega) (.inl (by omega)))⟩,fun x hx=>?_,_,H.ext,fun x hx => .inl (hidM x hx)⟩
      ·by_cases e:q=u
       ·subst e; rw [GW]; dsimp only; omega
       ·rw [Jr e]; have:=hni q hq; omega
      ·rcases List.mem_cons.1 hz with h | h
       ·rw [h]; exact hooge
       ·obtain ⟨t,ht,he⟩:=List.mem_map.1 h
        have:=(RO.blk u hyu t ht).2.1
        omega
      ·exact (hnewM x hx).imp id fun h=>by omega
     ·rintro M w ⟨st,rfl,RO,hni,HJ,-,-,-⟩ hD
      have htk:l.take (JS (grE (nn:Int) es) (EF pot) (Et (Co es) (flE fl) es.length)).length=l:=List.take_of_length_le (by unfold JS; rw [List.length_map,← hl]; exact Nat.le_refl _)
      simp only [htk] at RO
      clear hni htk
      obtain ⟨w5,rfl⟩:∃ z,z=w:=⟨_,rfl⟩
      have h59:∀ x,MX oo nn st x→x<w5.heap.size:=fun x hx=>(hM RO x hx).1
      have h5D:=Bp hD
      obtain ⟨ids,hids⟩:∃ ids,ids=OL.map (·.1):=⟨_,rfl⟩
      have hidM:∀ x∈ids,¬ MX oo nn st x:=fun x hx hm=>by
       rw [hids] at hx
       obtain ⟨y,hy,rfl⟩:=List.mem_map.1 hx
       have a1:=hOLlt y hy
       have a2:=hOLoo y hy
       rcases hm with h | ⟨u,hu,z,hz,he⟩
       ·exact a2 h
       ·have h3:=(RO.blk u hu z hz).2.2.1
        apply h3
        show z.1<_
        omega
      have hidD:ws.heap.size∉ids:=fun hx=>by
       rw [hids] at hx
       obtain ⟨y,hy,he⟩:=List.mem_map.1 hx
       have a1:=hOLlt y hy
       omega
      have hB:∀ {w':World} {L':List (Nat × Obj)},Ctx w5 ids w' L'→Ctx w0 [] w' L':=fun h=>(Ctx.back (L1:=OL) (L2:=[]) HJ.app_nil (by rw [← hids]; exact h)).nil_app
      have hnotL:∀ x,MX oo nn st x→∀ {w':World} {L':List (Nat × Obj)},Ctx w5 ids w' L'→x∉L'.map (·.1):=fun x hx {w' L'} h hm=>by
       obtain ⟨y,hy,he⟩:=List.mem_map.1 hm
       rcases h.own y hy with h1 | h1
       ·rw [he] at h1; exact hidM x h1 hx
       ·have:=h59 x hx; omega
      have H:Ctx w5 ids w5 OL:=by rw [hids]; exact HJ.app_nil.lend
      rw [hOL] at H
      clear hids
      obtain ⟨A,hA⟩:∃ A,A=LO g (Co es) (flE fl) pf:=⟨_,rfl⟩
      have hF:=P5 hfit
      rw [← hg,← hpf] at hF
      have hlb:∀ a,g.len pf a≤2199023256552 ∧ -2199023256552≤g.len pf a:=fun a=>by
       rw [hg,hpf]; exact Yn hr (Yo hp) a
      have hgN:g.N=nn:=by rw [hg]; rfl
      have hgE:g.E=es.length:=by rw [hg]; rfl
      have hArcs:Pw A nn 2199023256552:=by rw [hA,← hgN]; exact hF.arcs hgo fun a _=>(hlb a).1
      have hlE:l=Et (Co es) (flE fl) g.E:=by rw [hgE]; exact hl
      have hAf:∀ u,A.filter (fun a=>decide (a.1=u))=(HY g l u).map (I4 g pf):=fun u=>by rw [hA,hlE]; exact Q8 g _ _ pf u
      have hsl:∀ u,(HY g l u).length≤400:=fun u=>Nat.le_trans (List.length_filter_le _ _) hlen400
      have hdeg:∀ u,HW A u≤400:=fun u=>by unfold HW; rw [hAf,List.length_map]; have:=hsl u; omega
      have hsn:src.length≤nn:=KA nn src hnd hsrc
      have hfr:src≠[]→(adr fr).block<w0.heap.size:=fun h=>Rd.lt Rs (by simpa using h) (fun x _=>⟨_,rfl⟩) (by decide)
      have hselx:∀ u,u<nn→∀ x∈HY g l u,g.u x=u∧g.v x<nn∧x<2*es.length:=fun u _ x hx=>by
       obtain ⟨h1,h2⟩:=List.mem_filter.1 hx
       have h3:x<2*es.length:=by rw [hl] at h1; exact TB h1
       have h4:=hgo.v (a:=x) (by rw [hgE]; exact h3)
       exact ⟨of_decide_eq_true h2,by rw [← hgN]; exact h4,h3⟩
      have hstn:∀ u,u<nn→(st u).n=(HY g l u).length:=fun u hu=>(RO.os u hu).numN (fun _ _=>rfl) (by decide)
      have hget:∀ u,u<nn→(Ux nn st)[u]? = some (.slice (st u).a (HY g l u).length (st u).c):=fun u hu=>by
       have:=D3 (f:=fun u=>sloV (st u)) hu
       rw [← hstn u hu]; exact this
      have hrow:∀ {w':World} {S:List Nat},Ext S w5 w'→(∀ x∈S,x∈ids)→∀ u,u<nn→Rd w' (st u).a 4 (Gl g pf) (HY g l u):=fun {w' S} hx hS u hu=>by
       have RO':=RO.keep hx fun x hx'=>hidM x (hS x hx')
       exact (RO'.os u hu).rd (t:=229) (fun y hy=>(RO'.blk u hu y hy).1) (fun _ _=>rfl) (by decide)
      have hrowM:∀ u,u<nn→HY g l u≠[]→MX oo nn st (adr (st u).a).block:=fun u hu hne=>by
       obtain ⟨b,hb⟩:=(RO.os u hu).form (by rw [hstn u hu]; exact List.length_pos_iff.2 hne)
       exact Or.inr ⟨u,hu,(b,Bl 229 (st u).full),by show _∈ent (st u).a _ _; rw [XI hb]; exact List.mem_cons_self ..,by rw [hb]; rfl⟩
      have hooM:MX oo nn st oo := .inl rfl
      refine A5 (Aa (Af (Am rfl Aao (Yh _) rfl ?_)))
      rintro v w ⟨bh,rfl,hbh,hbhv,hx78⟩
      replace H:=H.callAdd hx78 hbhv hbh
      have Hp0:=H.perm (List.perm_middle (l₁:=[_,_,_]) (l₂:=[_,_,_]))
      have hlb0:=Ys
      have Hp:Ctx w5 ids w (NBl od nn (lb0 []) bh none 0 0 []++[(b11,Bl 221 [ptr b36]),(b36,Bl 224 (FB oo od oh ob nn)),(oh,Bl 3 (BE (fun _=>0) nn)),(ob,Bl 3 (BE (fun _ => -1) nn)),(b4,Bl 28 [.int .i64 (nn:Int),.slice a es.length c])]):=by show Ctx w5 ids w ((od,Bl 2 (BE (lb0 []).d nn))::_); rw [hlb0]; exact Hp0
      refine AW rfl rfl (Ab (Aa (An (Af (AN rfl Hy rfl H at1 rfl (A2 rfl rfl (Aj rfl rfl (Am rfl Aap (Wy (Ctx.lend Hp) OS.nil (Hp.get at3) (Su (Hp.comm).nd (x:=(b36,_)) (List.mem_of_getElem? (i:=1) rfl)) ((Rs.ext0 (hB Hp).ext)) (fun hne hm=>by have h1:=hfr hne; have h2:=(hB Hp.left).own; obtain ⟨y,hy,he⟩:=List.mem_map.1 hm; rcases h2 y hy with h | h; cases h; omega) (by omega) hsrc hnd (by omega)) rfl ?_))))))))
      rintro v w ⟨rfl,a0,c0,f0,L0,hp0,hH0,O0,H2⟩
      replace H:=Ctx.comm (L:=NBl od nn (lb0 src) bh a0 src.length c0 f0) (Ctx.back Hp H2)
      refine B1 rfl rfl (Ab (Aa (Aq _ rfl ?_ ?_)))
      ·intro h4
       replace h4:=Bv h4
       have:=of_decide_eq_false h4
       omega
      ·intro h4
       replace h4:=Bw h4
       refine Ao (Aa (An (Au ?_)))
       have hn0:src.length=L0.length:=O0.numN (fun _ _=>rfl) (by decide)
       have hps:=Uz (n:=nn) (A:=A) (src:=src) (d:=400) (by omega) fun v _=>hdeg v
       have hps2:(nn:Int)*(400*((nn:Int)+1))≤40*(400*41):=Int.mul_le_mul (by omega) (by omega) (by omega) (by omega)
       refine Bf 81129619071793567861722210074624 (α:=WSt) (fun _=>[]) (fun t w'=>MI A src nn 2199023256552 t.D t.s t.L∧HeapL t.L∧OS t.a t.hn t.c 2 t.full (t.L.flatMap ED)∧psi nn A t.D t.s t.L≤1000000∧Ctx w5 ids w' ([(b11,Bl 221 [ptr b36]),(b36,Bl 224 (FB oo od oh ob nn)),(ob,Bl 3 (BE (fun _ => -1) nn)),(b4,Bl 28 [.int .i64 (nn:Int),.slice a es.length c])]++GB od oh nn t.s bh t.a t.hn t.c t.full)) (fun t=>(psi nn A t.D t.s t.L).toNat) ⟨lb0 src,a0,src.length,c0,f0,L0,-1⟩ rfl ?_ ?_ ?_
       ·exact trivial
       ·refine ⟨(MI.start hsrc hnd).perm hp0.symm,hH0,O0,?_,?_⟩
        ·dsimp only
         rw [MW hp0]
         omega
        ·exact H.perm (List.Perm.cons _ (List.Perm.cons _ (List.perm_middle (l₁:=[_,_,_])).symm))
       ·rintro ⟨s,a',hn,c',full,L,D⟩ j w ⟨MM,hH,O,hpsi,H⟩; dsimp only at MM hH O hpsi H; dsimp only
        have hnl:hn=L.length:=O.numN (fun _ _=>rfl) (by decide)
        have hpl:=P0 (n:=nn) (A:=A) (D:=D) (s:=s) (hp:=L)
        refine An (Af (A2 rfl rfl (Am rfl Aaq (Yi (H.get (k:=6) rfl)) rfl ?_)))
        rintro v w ⟨rfl,rfl⟩
        refine Ck rfl rfl rfl (Ab (Aa (Aq _ rfl ?_ ?_)))
        ·intro h5
         replace h5:=AF h5
         obtain ⟨⟨d,v⟩,L1,rfl⟩:∃ t L1,L=t::L1:=by
          cases L with
          | nil=>simp at hnl; omega
          | cons t L1=>exact ⟨t,L1,rfl⟩
         obtain ⟨q,rfl⟩:=O.form (by omega)
         have hmin:∀ x∈L1,d≤x.1:=fun x hx=>by
          obtain ⟨i,hi⟩:=List.getElem?_of_mem hx
          have h:=hH.root (r:=(d,v)) rfl (i+1) x (by simpa using hi)
          rcases h with h | h
          ·exact Int.le_of_lt h
          ·exact Int.le_of_eq h.1
         have hvn:=MM.top hArcs
         dsimp only at hvn
         obtain ⟨dv,hdv⟩:∃ dv,dv=s.d v:=⟨_,rfl⟩
         have hgd:(tab s.d nn)[v]? = some dv:=by rw [BN hvn,hdv]
         refine Ao (Aa (Au (Af (A2 rfl rfl ?_))))
         have Hc:=Ctx.comm (L:=[_,_,_,_,_,_]) (L':=HB bh (some ⟨q,0,none⟩) hn c' full) H
         refine Am rfl Aar (Abt (Ctx.lend (L1:=HB bh (some ⟨q,0,none⟩) hn c' full) (L2:=[_,_,_,_,_,_]) Hc) O (by omega) hH) rfl ?_
         rintro rv w ⟨rfl,f2,L2,hp2,hH2,O2,H2⟩
         replace H:=Ctx.comm (L:=HB bh (some ⟨q,0,none⟩) L1.length c' f2) (L':=[_,_,_,_,_,_]) (Ctx.back (L1:=HB bh (some ⟨q,0,none⟩) hn c' full) (L2:=[_,_,_,_,_,_]) Hc H2)
         refine B9 rfl rfl (A3 rfl rfl rfl (A3 rfl rfl rfl (A3 rfl rfl rfl (Ae rfl rfl (Ae rfl rfl (Ae rfl rfl (Ab (Aa ?_))))))))
         have MM2:MI A src nn 2199023256552 D s ((d,v)::L2):=MM.perm ((hp2.cons _).symm)
         have hmin2:∀ x∈L2,d≤x.1:=fun x hx=>hmin x (hp2.mem_iff.1 hx)
         have hps3:psi nn A D s ((d,v)::L2)=psi nn A D s ((d,v)::L1):=MW (hp2.cons _)
         refine Af (Ad rfl rfl (AN rfl Hy rfl H at0 rfl (AJ rfl rfl (Ah rfl Eb rfl (AN rfl BX rfl H at1 rfl (Ad rfl rfl (Bg rfl AO Bu rfl rfl (by omega) (by omega) ?_)))))))
         refine Bb rfl Bt rfl (((Cs (H.get at4)).fld hgd rfl (j:=0) rfl)) ?_
         refine Cu rfl rfl rfl (Ab (Aa (Aq _ rfl ?_ ?_)))
         ·intro h6
          replace h6:=AF h6
          have he:(d,v).1=s.d (d,v).2:=by dsimp only; rw [← hdv]; exact h6
          obtain ⟨La,hLa⟩:∃ La,La=HY g l v:=⟨_,rfl⟩
          have hll:La.length≤400:=by rw [hLa]; exact hsl v
          have hfold:∀ k,(goP g pf s L2 (La.take k))=(((La.take k).map (I4 g pf)).foldl I5 (s,L2)):=fun k=>rfl
          have hgoes:∀ k,DJ A src nn 2199023256552 (goP g pf s L2 (La.take k)).1:=fun k=>by
           rw [hfold]
           exact (MM2.go hArcs (by omega) (by omega) hmin2 he (l:=(La.take k).map (I4 g pf)) (l1:=(La.drop k).map (I4 g pf)) (by rw [← List.map_append,List.take_append_drop,hLa]; exact hAf v)).1
          obtain ⟨M3,hps4⟩:=(MM2.go hArcs (by omega) (by omega) hmin2 he (l:=La.map (I4 g pf)) (l1:=[]) (by rw [List.append_nil,hLa]; exact hAf v)).2 rfl
          have RO1:=RO.keep H.ext hidM
          have RX:=hrow H.ext (fun _ h=>h) v hvn
          have hgv:=hget v hvn
          rw [← hLa] at RX hgv
          refine Av (AN rfl Hy rfl H at0 rfl (A2 rfl rfl (Ad rfl rfl ?_)))
          have Hc:=Ctx.comm (L:=[_,_,_,_]) (L':=GB od oh nn s bh (some ⟨q,0,none⟩) L1.length c' f2) H
          refine Am rfl Aas (Ym (Ctx.lend (L1:=GB od oh nn s bh (some ⟨q,0,none⟩) L1.length c' f2) (L2:=[_,_,_,_]) Hc) O2 hH2 (H.get at1) (Su (L:=[_,_,_,_]) H.nd (x:=(b36,_)) (List.mem_of_getElem? (i:=1) rfl)) RO1.tbl (hnotL oo hooM (Ctx.left (L':=[_,_,_,_]) Hc)) hgv hvn RX (fun hne=>hnotL _ (hrowM v hvn (hLa ▸ hne)) (Ctx.left (L':=[_,_,_,_]) Hc)) (by omega) (fun x hx=>by rw [hLa] at hx; have h7:=hselx v hvn x hx; have h8:=hlb x; exact ⟨h7.1,h7.2.1,by omega,by omega⟩) (by simp only [List.length_cons] at hnl hpl; omega) (fun k x _=>by have h7:=(hgoes k).dist (by omega) (by omega) x; exact ⟨h7.1,by omega,by omega⟩)) rfl ?_
          rintro rv w ⟨rfl,a3,hn3,c3,f3,L3,hp3,hH3,O3,H3⟩
          replace H:=Ctx.comm (L:=GB od oh nn (goP g pf s L2 La).1 bh a3 hn3 c3 f3) (L':=[_,_,_,_]) (Ctx.back (L1:=GB od oh nn s bh (some ⟨q,0,none⟩) L1.length c' f2) (L2:=[_,_,_,_]) Hc H3)
          refine Ab (A5 (Aa ?_))
          have hps7:psi nn A d (goP g pf s L2 La).1 (goP g pf s L2 La).2+1≤psi nn A D s ((d,v)::L2):=hps4
          have hps5:psi nn A d (goP g pf s L2 La).1 L3+1≤psi nn A D s ((d,v)::L1):=by
           rw [MW hp3,← hps3]; exact hps7
          have hps6:=P0 (n:=nn) (A:=A) (D:=d) (s:=(goP g pf s L2 La).1) (hp:=L3)
          exact ⟨⟨(goP g pf s L2 La).1,a3,hn3,c3,f3,L3,d⟩,rfl,trivial,⟨MI.perm M3 hp3.symm,hH3,O3,by dsimp only; omega,H⟩,by dsimp only; omega⟩
         ·intro h6
          replace h6:=AG h6
          have hne:(d,v).1≠s.d (d,v).2:=by dsimp only; rw [← hdv]; exact h6
          obtain ⟨M3,hps4⟩:=MM2.drop hArcs hmin2 hne
          have hps6:=P0 (n:=nn) (A:=A) (D:=d) (s:=s) (hp:=L2)
          refine Ao (A5 (Aa ?_))
          exact ⟨⟨s,some ⟨q,0,none⟩,L1.length,c',f2,L2,d⟩,rfl,trivial,⟨M3,hH2,O2,by dsimp only at hps4 ⊢; omega,H⟩,by dsimp only at hps4 ⊢; omega⟩
        ·intro h5
         replace h5:=AG h5
         obtain rfl:L=[]:=List.eq_nil_of_length_eq_zero (by omega)
         have DN:=MM.ends
         have hsd:=fun v=>MM.dj.dist (by omega) (by omega) v
         have hge:∀ u,u<nn→g.u u=g.u u:=fun _ _=>rfl
         have RO1:=RO.keep H.ext hidM
         have hooG:=hnotL oo hooM H
         have Hp4:=H.perm (List.perm_middle (l₁:=[_,_]) (l₂:=[_,_,_]++_))
         have hobM:∀ u,u<nn→HY g l u≠[]→(adr (st u).a).block≠ob:=fun u hu hne e=>hnotL _ (hrowM u hu hne) H (by rw [e]; exact List.mem_map.2 ⟨(ob,_),List.mem_of_getElem? (i:=2) rfl,rfl⟩)
         refine Bc (Ak (Ak (AD (Aa (Af (AN rfl Hy rfl H at0 rfl (Am rfl Aat (Wz (outL:=fun u=>HY g l u) (g:=g) (p:=pf) (s:=s) (H.get at2) (H.get at1) (H.get at4) (H.get at5) RO1.tbl (H.ne at1 at2 (by decide)) (H.ne at4 at2 (by decide)) (H.ne at5 at2 (by decide)) (fun e=>hooG (by rw [e]; exact List.mem_map.2 ⟨(ob,_),List.mem_of_getElem? (i:=2) rfl,rfl⟩)) (by omega) (fun v=>by have h7:=hsd v; omega) (fun u hu=>⟨_,_,hget u hu,hrow H.ext (fun _ h=>h) u hu,hobM u hu,by have:=hsl u; omega,fun x hx=>by have h7:=hselx u hu x hx; have h8:=hlb x; exact ⟨h7.1,h7.2.1,by omega,by omega,by omega⟩⟩)) rfl ?_)))))))
         rintro rv w ⟨rfl,by',BB,H3⟩
         replace H:=Ctx.back (L1:=[_]) (L2:=[_,_,_,_,_]++_) Hp4 H3
         refine Ab (Aa (DE (fun x=>x=_) B0 (by kernel_rfl) rfl ?_))
         refine Cd rfl Hy rfl (by rintro _ rfl; exact H.drew) at1 rfl ?_
         refine Bh rfl rfl (A7 rfl Eb rfl (Cd rfl BX rfl (by rintro _ rfl; exact H.drew) at2 rfl ?_))
         refine Cd rfl Hy rfl (by rintro _ rfl; exact H.drew) at1 rfl ?_
         refine Bh rfl rfl (A7 rfl Ji rfl (Cd rfl F9 rfl (by rintro _ rfl; exact H.drew) at2 rfl ?_))
         refine NO rfl rfl (NO rfl rfl (C8 rfl rfl (BJ ?_)))
         rintro _ rfl
         replace H:=H.drew
         refine A8 (Yr rfl rfl rfl rfl ?_)
         have hodlt:=hOLlt (od,_) (by rw [hOL]; exact List.mem_of_getElem? (i:=2) rfl)
         have hoblt:=hOLlt (ob,_) (by rw [hOL]; exact List.mem_of_getElem? (i:=4) rfl)
         dsimp only at hodlt hoblt
         have hall:∀ a,a∈HY g l (g.u a)→a<2*g.E∧0<CI (Co es) (flE fl) a:=fun x hx=>by
          have h1:=(List.mem_filter.1 hx).1
          rw [hlE] at h1
          obtain ⟨h2,h3⟩:=List.mem_filter.1 h1
          exact ⟨List.mem_range.1 h2,of_decide_eq_true h3⟩
         have BY:=Abu (cap:=Co es) (x:=flE fl) (by rw [← hA]; exact DN) (by rw [← hA]; exact hArcs) BB hall (fun x h1 h2=>⟨by rw [← hgN]; exact hgo.u h1,List.mem_filter.2 ⟨by rw [hlE]; exact List.mem_filter.2 ⟨List.mem_range.2 h1,decide_eq_true h2⟩,decide_eq_true rfl⟩⟩)
         refine G6 (H.ext.to hD hidD) rfl fun wF hxF=>⟨od,ob,s,by',rfl,?_,?_,fun v=>?_,?_⟩
         ·rw [hA,hg,hpf] at DN; exact DN
         ·rw [hg,hpf] at BY; exact BY
         ·rcases BB.val v with h | ⟨x,h1,h2,-⟩
          ·exact .inl h
          ·exact .inr ⟨x,h1,by rw [← hgE]; exact (hall x h2).1⟩
         ·refine ((hB H).sub (L':=[(od,Bl 2 (BE s.d nn)),(ob,Bl 3 (BE by' nn))]) (fun x hx=>?_) ?_).step hxF (fun x hx=>?_) fun x hx => .inr ?_
          ·simp only [List.mem_cons,List.not_mem_nil,or_false] at hx
           rcases hx with rfl | rfl
           ·exact List.mem_of_getElem? (i:=4) rfl
           ·exact List.mem_of_getElem? (i:=0) rfl
          ·simp only [List.pairwise_cons,List.mem_singleton,forall_eq,List.not_mem_nil,false_imp_iff,implies_true,List.Pairwise.nil,and_true]
           exact H.ne at4 at0 (by decide)
          ·simp only [List.mem_cons,List.not_mem_nil,or_false] at hx
           rw [List.mem_singleton]
           rcases hx with rfl | rfl
           ·dsimp only; omega
           ·dsimp only; omega
          ·rw [List.mem_singleton.1 hx]; exact hs07

end Go.Proofs.YtapphbmlkdhnmaaGreat

/- Nets with other caps; phases: plain law. -/
namespace Go.Proofs.YtapphbmlkdhnmaaGreat
open Go.GV

theorem OS.setf {α:Type} {a:Option Addr} {n c s:Nat} {full:List Value} {enc:α→List Value} {L:List α} (O:OS a n c s full (L.flatMap enc)) (hs:∀ x,(enc x).length=s) {i j:Nat} {x y:α} {v:Value} (hx:L[i]? = some x) (hj:j<s) (hy:enc y=(enc x).set j v):OS a n c s (full.set (i*s+j) v) ((L.set i y).flatMap enc):=by
 refine ⟨O.zero,O.none',by rw [List.length_set]; exact O.len,O.le,?_⟩
 rw [O.split,Yf (fun z _=>hs z) hx hj hy]
 have h1:=O.llen
 rw [EC fun z _=>hs z] at h1
 exact List.take_left' (by rw [EC fun z _=>hs z,List.length_set,h1])

/-- The edges, with other caps. -/
def edC (es:List Ed) (c:Nat→Int) (i:Nat):Ed:={ es.getD i e0 with cap:=c i }
def esC (es:List Ed) (c:Nat→Int):List Ed:=(List.range es.length).map (edC es c)
theorem I7 (es:List Ed) (c:Nat→Int):(esC es c).length=es.length:=by unfold esC; simp
theorem I8 {es:List Ed} {c:Nat→Int} {i:Nat} (h:i<es.length):(esC es c)[i]? = some (edC es c i):=D3 h
theorem JA {es:List Ed} {c d:Nat→Int} (h:∀ i,i<es.length→c i=d i):esC es c=esC es d:=List.map_congr_left fun i hi=>by unfold edC; rw [h i (List.mem_range.1 hi)]
theorem TE {es:List Ed} {c d:Nat→Int} {i:Nat} {e:Ed} (he:edC es d i=e) (h:∀ j,j<es.length→j≠i→d j=c j):(esC es c).set i e=esC es d:=HI he fun j hj hn=>by unfold edC; rw [h j hj hn]
theorem Nc (es:List Ed):esC es (Co es)=es:=by
 refine List.ext_getElem? fun i=>?_
 rcases Nat.lt_or_ge i es.length with h | h
 ·obtain ⟨e,he⟩:=A0 h
  rw [I8 h,he]
  unfold edC Co
  rw [Bn he]
 ·rw [List.getElem?_eq_none (by rw [I7]; exact h),List.getElem?_eq_none h]
theorem Abv {es:List Ed} {c:Nat→Int} {i:Nat} (h:i<es.length):Co (esC es c) i=c i:=by
 unfold Co; rw [Bn (I8 h)]; rfl
theorem grE_C (N:Int) (es:List Ed) (c:Nat→Int):grE N (esC es c)=grE N es:=by
 have h:∀ i,((esC es c).getD i e0).f=(es.getD i e0).f∧((esC es c).getD i e0).t=(es.getD i e0).t∧((esC es c).getD i e0).cost=(es.getD i e0).cost:=fun i=>by
  rcases Nat.lt_or_ge i es.length with h | h
  ·rw [Bn (I8 h)]; exact ⟨rfl,rfl,rfl⟩
  ·rw [List.getD_eq_getElem?_getD,List.getElem?_eq_none (by rw [I7]; exact h),List.getD_eq_getElem?_getD,List.getElem?_eq_none h]
   exact ⟨rfl,rfl,rfl⟩
 unfold grE
 rw [I7]
 congr 1
 ·funext i; rw [(h i).1]
 ·funext i; rw [(h i).2.1]
 ·funext i; rw [(h i).2.2]
theorem Oh {α:Type} {f g:α→Nat}:∀ {l:List α},(∀ x∈l,f x≤g x)→(l.map f).sum≤(l.map g).sum
 | [],_=>Nat.le_refl _
 | x::l,h=>by
  have h1:=h x (List.mem_cons_self ..)
  have h2:=Oh (l:=l) fun y hy=>h y (List.mem_cons_of_mem _ hy)
  simp only [List.map_cons,List.sum_cons]
  omega
theorem TF {N:Int} {es:List Ed} {c:Nat→Int} (h:Cb N es=true) (hc:∀ i,i<es.length→0≤c i∧c i≤Co es i):Cb N (esC es c)=true:=by
 obtain ⟨h1,h2,h3,h4,h5⟩:=Cn h
 have h6:Ef (esC es c)≤Ef es:=by
  have e1:Ef es=((List.range es.length).map fun i=>Fe (es.getD i e0)).sum:=by
   conv=>lhs; rw [← Nc es]
   unfold Ef esC
   rw [List.map_map]
   congr 1
  have e2:Ef (esC es c)=((List.range es.length).map fun i=>Fe (edC es c i)).sum:=by
   unfold Ef esC
   rw [List.map_map]
   congr 1
  rw [e1,e2]
  refine Oh fun i hi=>?_
  have h7:=hc i (List.mem_range.1 hi)
  unfold Fe edC
  dsimp only
  exact Nat.mul_le_mul_right _ (by unfold Co at h7; omega)
 have h7:(esC es c).all (DV N)=true:=List.all_eq_true.2 fun e he=>by
  obtain ⟨i,hi,rfl⟩:=List.mem_map.1 he
  have hil:=List.mem_range.1 hi
  obtain ⟨e,he⟩:=A0 hil
  have h8:=D6 (h4 e (List.mem_of_getElem? he))
  have h9:=hc i hil
  unfold Co at h9
  rw [Bn he] at h9
  unfold edC DV GU
  rw [Bn he]
  dsimp only
  simp only [Bool.and_eq_true,decide_eq_true_eq]
  omega
 unfold Cb
 rw [h7,I7]
 simp only [Bool.and_eq_true,decide_eq_true_eq]
 exact ⟨⟨h1,h2⟩,h3,trivial,by omega⟩
theorem W7 {N:Int} {es:List Ed} {c x:Nat→Int} (h:Cb N es=true) (hc:∀ i,i<es.length→0≤c i∧c i≤Co es i) (hx:∀ i,i<es.length→0≤x i∧x i≤c i):BG N (esC es c) (tab x es.length)=true:=by
 unfold BG
 rw [TF h hc,CQ,I7,decide_eq_true rfl]
 refine List.all_eq_true.2 fun b hb=>?_
 obtain ⟨i,hi⟩:=List.getElem?_of_mem hb
 have hil:i<es.length:=by
  have:=Cr hi
  rw [List.length_zipWith,I7,CQ] at this
  omega
 rw [Kf (I8 hil) (BN hil)] at hi
 obtain rfl:=Option.some.inj hi
 have:=hx i hil
 unfold inB edC
 simp only [Bool.and_eq_true,decide_eq_true_eq,id_eq]
 omega
/-- The caps of a phase. -/
def FK (es:List Ed) (k i:Nat):Int:=(((Co es i).toNat / 2 ^ k:Nat):Int)
theorem Mc {N:Int} {es:List Ed} (h:Cb N es=true) (k:Nat):∀ i,i<es.length→0≤FK es k i∧FK es k i≤Co es i:=fun i hi=>by
 obtain ⟨e,he⟩:=A0 hi
 have h8:=D6 ((Cn h).2.2.2.1 e (List.mem_of_getElem? he))
 have h9:(Co es i).toNat / 2 ^ k≤(Co es i).toNat:=Nat.div_le_self _ _
 have h7:0≤Co es i:=by unfold Co; rw [Bn he]; omega
 unfold FK
 obtain ⟨z,hz⟩:∃ z,z=(Co es i).toNat / 2 ^ k:=⟨_,rfl⟩
 rw [← hz] at h9 ⊢
 omega
theorem Oi (es:List Ed) (k i:Nat):2*FK es (k+1) i≤FK es k i∧FK es k i≤2*FK es (k+1) i+1:=by
 have h:(Co es i).toNat / 2 ^ (k+1)=((Co es i).toNat / 2 ^ k) / 2:=by rw [Nat.pow_succ,Nat.div_div_eq_div_mul]
 unfold FK
 rw [h]
 obtain ⟨z,hz⟩:∃ z,z=(Co es i).toNat / 2 ^ k:=⟨_,rfl⟩
 rw [← hz]
 omega
theorem U5 {N:Int} {es:List Ed} (h:Cb N es=true):∀ i,i<es.length→FK es 0 i=Co es i:=fun i hi=>by
 have h7:=Mc h 0 i hi
 unfold FK at h7 ⊢
 rw [Nat.pow_zero,Nat.div_one] at h7 ⊢
 omega
theorem Md {N:Int} {es:List Ed} (h:Cb N es=true):∀ i,i<es.length→0≤Co es i∧Co es i≤4503599627370496:=fun i hi=>by
 obtain ⟨e,he⟩:=A0 hi
 have h8:=D6 ((Cn h).2.2.2.1 e (List.mem_of_getElem? he))
 unfold Co; rw [Bn he]; omega
theorem Ll {g:Gr} {cap cap' x p:Nat→Int} (h:Fine g cap x p) (hc:∀ i,i<g.E→cap' i=cap i):Fine g cap' x p:=by
 refine ⟨fun i hi=>by rw [hc i hi]; exact h.in' i hi,fun a ha hr=>h.fit a ha ?_⟩
 unfold CI at hr ⊢
 rw [hc _ (by omega)] at hr
 exact hr
theorem TG {g:Gr} {x:Nat→Int} (hE:g.E≤200) (hx:∀ i,i<g.E→0≤x i∧x i≤4503599627370496) (v:Nat) : -900719925474099200≤BA g x v∧BA g x v≤900719925474099200:=by
 have h:=GS (g:=g) (x:=x) (c:=4503599627370496) v (k:=g.E) hx
 have h2:(g.E:Int)*4503599627370496≤200*4503599627370496:=by omega
 unfold BA
 omega

end Go.Proofs.YtapphbmlkdhnmaaGreat

/- The solver: finer caps: the walk. -/
namespace Go.Proofs.YtapphbmlkdhnmaaGreat
open Go.GV
attribute [local irreducible] AL W Wq Wt

def I9 (c c':Nat→Int) (i j:Nat):Int:=if j<i then c' j else c j
def flW (g:Gr) (c' x p:Nat→Int) (i j:Nat):Int:=if j<i then Jo g c' x p j else x j
theorem TH {c c':Nat→Int} {i j:Nat} (h:j≠i):I9 c c' (i+1) j=I9 c c' i j:=by unfold I9; split <;> split <;> first | rfl | omega
theorem W8 {g:Gr} {c' x p:Nat→Int} {i j:Nat} (h:j≠i):flW g c' x p (i+1) j=flW g c' x p i j:=by unfold flW; split <;> split <;> first | rfl | omega
abbrev FL (bf bo n N:Nat) (x ov:Nat→Int) (ae:Option Addr) (full:List Value):List (Nat × Obj):=(bf,Bl 2 (BE x n))::(bo,Bl 2 (BE ov N))::ent ae 92 full

set_option maxRecDepth 20000 in
set_option maxHeartbeats 8000000 in
theorem W9 {w:World} {bs:Nat} {N:Nat} {ae aw:Option Addr} {ce cw bf bp bo k:Nat} {kk:Int} {es:List Ed} {c x p ov:Nat→Int} {full:List Value} (H0:Ctx w ((FL bf bo es.length N x ov ae full).map (·.1)) w (FL bf bo es.length N x ov ae full)) (O:OS ae es.length ce 4 full ((esC es c).flatMap Cw))
  (hs:w.heap[bs]? = some (Bl 170 (SC N ae es.length ce bf bp bo kk))) (hbs:bs∉(FL bf bo es.length N x ov ae full).map (·.1)) (hp:w.heap[bp]? = some (Bl 2 (BE p N))) (hbp:bp∉(FL bf bo es.length N x ov ae full).map (·.1)) (Rw:Rd w aw 4 Cw es) (hRw:es≠[]→(adr aw).block∉(FL bf bo es.length N x ov ae full).map (·.1))
  (hr:Cb (N:Int) es=true) (hk:k≤64) (hc:∀ i,i<es.length→2*c i≤FK es k i∧FK es k i≤2*c i+1) (hF:Fine (grE (N:Int) es) c x p) (hx0:∀ v,v<N→BA (grE (N:Int) es) x v=0) (hov:∀ v,v<N→ov v=0) (hpb:∀ v,v<N → -1073741824≤p v∧p v≤1073741824) :
  Ret Tryz.prog 119 #[ptr bs,CS (N:Int) aw es.length cw,.int .i64 (k:Int)] w fun v w'=>v = .tuple #[]∧∃ full',OS ae es.length ce 4 full' ((esC es (FK es k)).flatMap Cw) ∧
   Ctx w ((FL bf bo es.length N x ov ae full).map (·.1)) w' (FL bf bo es.length N (Jo (grE (N:Int) es) (FK es k) x p) (BA (grE (N:Int) es) (Jo (grE (N:Int) es) (FK es k) x p)) ae full'):=by
 obtain ⟨w0,rfl⟩:∃ w0,w0=w:=⟨_,rfl⟩
 obtain ⟨ids,hids⟩:∃ ids,ids=(FL bf bo es.length N x ov ae full).map (·.1):=⟨_,rfl⟩
 rw [← hids] at H0 hbs hbp hRw ⊢
 have H:=H0
 obtain ⟨hN1,hN40,hn200,hall,-⟩:=Cn hr
 obtain ⟨g,hg⟩:∃ g,g=grE (N:Int) es:=⟨_,rfl⟩
 obtain ⟨c',hc'⟩:∃ c',c'=FK es k:=⟨_,rfl⟩
 have hgE:g.E=es.length:=by rw [hg]; rfl
 have hgo:g.Ok:=by rw [hg]; exact GY hr
 have hin:=Mc hr k
 have hcb:=Md hr
 rw [← hg] at hF hx0 ⊢
 rw [← hc'] at hc hin ⊢
 have hF2:=MS hF (cap':=c') (fun i hi=>hc i (by rw [← hgE]; exact hi))
 have hxb:∀ i,i<es.length→0≤x i∧2*x i≤c' i∧c' i≤4503599627370496:=fun i hi=>by
  have h1:=hF.in' i (by rw [hgE]; exact hi)
  have h2:=hc i hi
  have h3:=hin i hi
  have h4:=hcb i hi
  omega
 have hmix:∀ i v,-900719925474099200≤BA g (H6 g c' x p i) v∧BA g (H6 g c' x p i) v≤900719925474099200:=fun i v=>TG (by omega) (fun j hj=>by
  have h1:=hxb j (by rw [← hgE]; exact hj)
  have h2:=hF2.in' j hj
  unfold H6
  split <;> omega) v
 refine A9 (fn:=Tryz.f119) Tryz.func119 rfl [.pointer (some ⟨bs,0,none⟩),CS (N:Int) aw es.length cw,.int .i64 (k:Int)] rfl (by kernel_rfl) ?_
 refine Af (BC rfl [.int .i64 (N:Int),.slice aw es.length cw] (.agg _) rfl rfl H ?_)
 rintro b4 w - H
 refine Ab (Aa (Af (A2 rfl rfl (AJ rfl rfl (Ah rfl E8 rfl (Bb rfl BX rfl ((by rw [Ay (H.ext.to hs hbs)]; rfl)) ?_))))))
 refine AV rfl AO rfl (Ad rfl rfl (Ab (Aa (Au (Bf 21778071482940061661655974875633165517248 (α:=Nat × List Value) (fun t=>[(14,.int .i64 (t.1:Int))]) (fun t w'=>t.1≤es.length∧OS ae es.length ce 4 t.2 ((esC es (I9 c c' t.1)).flatMap Cw)∧Ctx w0 ids w' ((b4,Bl 28 [.int .i64 (N:Int),.slice aw es.length cw])::FL bf bo es.length N (flW g c' x p t.1) (BA g (H6 g c' x p t.1)) ae t.2)) (fun t=>es.length - t.1) (0,full) rfl ?_ ?_ ?_)))))
 ·exact ⟨rfl,trivial⟩
 ·refine ⟨Nat.zero_le _,?_,?_⟩
  ·rw [JA (d:=c) fun i _=>by unfold I9; rw [if_neg (Nat.not_lt_zero _)]]
   exact O
  ·have e1:BE (flW g c' x p 0) es.length=BE x es.length:=List.map_congr_left fun i _=>by unfold flW; rw [if_neg (Nat.not_lt_zero _)]
   have e2:BE (BA g (H6 g c' x p 0)) N=BE ov N:=List.map_congr_left fun v hv=>by
    have hv:=List.mem_range.1 hv
    rw [Wj (hx0 v hv),hov v hv]
   dsimp only [FL]
   rw [e1,e2]
   exact H
 ·rintro ⟨i,full1⟩ j w ⟨hi,O,H⟩; dsimp only at hi O H; dsimp only
  refine Af (AZ rfl rfl rfl (Ab (Aa (An (Aq _ rfl ?_ ?_)))))
  ·intro h1
   replace h1:=AF h1
   have hil:i<es.length:=by omega
   obtain ⟨e,he⟩:=A0 hil
   have hee:=D6 (hall e (List.mem_of_getElem? he))
   obtain ⟨un,hun⟩:∃ un:Nat,e.f=un:=⟨e.f.toNat,by omega⟩
   obtain ⟨vn,hvn⟩:∃ vn:Nat,e.t=vn:=⟨e.t.toNat,by omega⟩
   obtain ⟨cc,hcc⟩:∃ cc:Nat,e.cap=cc:=⟨e.cap.toNat,by omega⟩
   have hgf:g.f i=un:=by rw [hg]; show (es.getD i e0).f.toNat=un; rw [Bn he,hun]; rfl
   have hgt:g.t i=vn:=by rw [hg]; show (es.getD i e0).t.toNat=vn; rw [Bn he,hvn]; rfl
   have hgc:g.co i=e.cost:=by rw [hg]; show (es.getD i e0).cost=_; rw [Bn he]
   have hck:c' i=((cc / 2 ^ k:Nat):Int):=by
    rw [hc']; unfold FK Co; rw [Bn he,hcc]; rfl
   have hunN:un<N:=by omega
   have hvnN:vn<N:=by omega
   obtain ⟨q,rfl⟩:=O.form (by omega)
   have hxi:=hxb i hil
   obtain ⟨xi,hxie⟩:∃ xi,xi=x i:=⟨_,rfl⟩
   obtain ⟨ck,hcke⟩:∃ ck,ck=c' i:=⟨_,rfl⟩
   rw [← hxie,← hcke] at hxi
   rw [← hcke] at hck
   have hgx:(tab (flW g c' x p i) es.length)[i]? = some xi:=by rw [BN hil,hxie]; unfold flW; rw [if_neg (Nat.lt_irrefl _)]
   have hcap2:(Cw e)[2]? = some (.int .i64 (cc:Int)):=by unfold Cw; rw [hcc]; rfl
   have hes:es≠[]:=fun h=>by rw [h] at he; cases he
   have hqn:=O.le
   have hOl:=O.len
   refine Ao (Aa (An (Au (Af (Ad rfl rfl (Ae rfl rfl (Ab (Aa (Af (A2 rfl rfl (AJ rfl rfl ?_)))))))))))
   refine Ah rfl Ge rfl (Ah rfl Cc rfl (Bb rfl Dh rfl ((by rw [Ay (H.ext.to hs hbs)]; rfl)) ?_))
   refine Ad rfl rfl (Bg rfl C0 CC rfl rfl (by omega) (by omega) ?_)
   refine AW rfl rfl (Ab (Aa (Af (A2 rfl rfl (AJ rfl rfl (Ah rfl E8 rfl (Bb rfl BX rfl ((by rw [Ay (H.ext.to hs hbs)]; rfl)) ?_)))))))
   refine Ad rfl rfl (Bg rfl AO Bu rfl rfl (by omega) (by omega) ?_)
   refine Bb rfl Bt rfl (((Cs (H.get at1)).fld hgx rfl (j:=0) rfl)) ?_
   refine Dd rfl rfl rfl (by omega) (by omega) ?_
   refine Bg rfl AO Bu rfl rfl (by omega) (by omega) ?_
   refine BU i (fun z => .int .i64 (if z=i then xi*2 else flW g c' x p i z)) (.int _ _) rfl Bu rfl rfl rfl H at1 (by simp) hil (by rw [if_pos rfl]) (fun z _ hz=>by rw [if_neg hz]) ?_
   rintro w H
   refine Ab (Aa (Af (A2 rfl rfl (Ah rfl Cc rfl (AN rfl Dh rfl H at0 rfl (Ad rfl rfl (AK Rw rfl C0 CC rfl rfl (by omega) (by omega) (by rfl) ?_)))))))
   refine Ah rfl DP rfl (Bb rfl Bt rfl (((Rw.ext H.ext (hRw hes)).fld he rfl (j:=2) hcap2)) ?_)
   refine Ad rfl rfl (Iu (a:=cc) (n:=k) rfl rfl rfl (by omega) ?_)
   rw [← hck]
   refine AJ rfl rfl (Ah rfl DP rfl (Cy (.int _ _) rfl Bu rfl rfl rfl H at3 (by omega) ?_))
   rintro w H
   refine Ab (Aa ?_)
   rw [show 0+((i:Int)).toNat*4+2=i*4+2 by omega] at H
   have O1:=OS.setf O (y:=edC es (I9 c c' (i+1)) i) (j:=2) (v := .int .i64 ck) (fun _=>rfl) (I8 (c:=I9 c c' i) hil) (by decide) (by unfold edC Cw I9; dsimp only; rw [if_pos (by omega),← hcke]; rfl)
   rw [TE rfl (fun j _ hj=>TH hj)] at O1
   obtain ⟨full2,hf2⟩:∃ full2,full2=full1.set (i*4+2) (.int .i64 ck):=⟨_,rfl⟩
   rw [← hf2] at O1
   replace H:Ctx w0 ids w ((b4,Bl 28 [.int .i64 (N:Int),.slice aw es.length cw])::(bf,Bl 2 (BE (fun z=>if z=i then xi*2 else flW g c' x p i z) es.length))::(bo,Bl 2 (BE (BA g (H6 g c' x p i)) N))::[(q,Bl 92 full2)]):=by rw [hf2]; exact H
   have hrow:=I8 (c:=I9 c c' (i+1)) hil
   have henc:Cw (edC es (I9 c c' (i+1)) i)=[.int .i64 (un:Int),.int .i64 (vn:Int),.int .i64 ck,.int .i64 e.cost]:=by
    unfold edC Cw I9; rw [Bn he]; dsimp only; rw [if_pos (by omega),hun,hvn,← hcke]
   have hfin:Jo g c' x p i=if 2*xi<ck∧e.cost+p un - p vn<0 then ck else 2*xi:=by
    unfold Jo; rw [hgc,hgf,hgt,← hxie,← hcke]
   have hms:=fun v=>Wk (g:=g) (cap':=c') (x:=x) (p:=p) (k:=i) (by omega) v
   rw [hgf,hgt,← hxie] at hms
   obtain ⟨pu,hpu⟩:∃ pu,pu=p un:=⟨_,rfl⟩
   obtain ⟨pv,hpv⟩:∃ pv,pv=p vn:=⟨_,rfl⟩
   have hpbu:=hpb un hunN
   have hpbv:=hpb vn hvnN
   rw [← hpu] at hpbu hfin
   rw [← hpv] at hpbv hfin
   have hgpu:(tab p N)[un]? = some pu:=by rw [BN hunN,hpu]
   have hgpv:(tab p N)[vn]? = some pv:=by rw [BN hvnN,hpv]
   have hgx2:(tab (fun z=>if z=i then xi*2 else flW g c' x p i z) es.length)[i]? = some (xi*2):=by rw [BN hil,if_pos rfl]
   have RP:=Cs hp
   have hRE:∀ {z:World},z.heap[q]? = some (Bl 92 full2)→Rd z (some ⟨q,0,none⟩) 4 Cw (esC es (I9 c c' (i+1))):=fun h=>O1.rd (t:=92) (fun y hy=>by have hy:=List.mem_singleton.1 hy; rw [hy]; exact h) (fun _ _=>rfl) (by decide)
   have RE:=hRE (H.drew.get at3)
   refine El 38685626227650541404553216 (α:=Unit) (fun _=>[(84,.bool (decide (xi*2<ck∧e.cost+pu - pv<0)))]) (fun _ w'=>Ctx w0 ids w' ((b4,Bl 28 [.int .i64 (N:Int),.slice aw es.length cw])::(bf,Bl 2 (BE (fun z=>if z=i then xi*2 else flW g c' x p i z) es.length))::(bo,Bl 2 (BE (BA g (H6 g c' x p i)) N))::[(q,Bl 92 full2)])) rfl ?_ ?_
   ·skip
    refine Pa (fun x=>x=_) B0 (by kernel_rfl) rfl ?_
    refine BS rfl rfl (Bh rfl rfl (A7 rfl E8 rfl (BR rfl BX rfl (by rintro _ rfl; exact ((by rw [Ay (H.drew.ext.to hs hbs)]; rfl))) ?_)))
    refine AP rfl rfl (AY rfl AO Bu rfl rfl (by omega) (by omega) ?_)
    refine BR rfl Bt rfl (by rintro _ rfl; exact (((Cs (H.drew.get at1)).fld hgx2 rfl (j:=0) rfl))) ?_
    refine BS rfl rfl (Bh rfl rfl (A7 rfl DP rfl (BR rfl Bt rfl (by rintro _ rfl; exact ((RE.fld hrow rfl (j:=2) (by rw [henc]; rfl)))) ?_)))
    refine IH rfl rfl rfl (CW rfl rfl (Dg 56 rfl ?_ ?_))
    ·intro h1
     replace h1:=AF h1
     refine BS rfl rfl (Bh rfl rfl (A7 rfl EK rfl (BR rfl Bt rfl (by rintro _ rfl; exact ((RE.fld hrow rfl (j:=3) (by rw [henc]; rfl)))) ?_)))
     refine BS rfl rfl (Bh rfl rfl (A7 rfl EA rfl (BR rfl BX rfl (by rintro _ rfl; exact ((by rw [Ay (H.drew.ext.to hs hbs)]; rfl))) ?_)))
     refine BS rfl rfl (Bh rfl rfl (A7 rfl EY rfl (BR rfl BV rfl (by rintro _ rfl; exact ((RE.fld hrow rfl (j:=0) (by rw [henc]; rfl)))) ?_)))
     refine AY rfl AO Bu rfl rfl (by omega) (by omega) ?_
     refine BR rfl Bt rfl (by rintro _ rfl; exact (((RP.ext H.drew.ext hbp).fld hgpu rfl (j:=0) rfl))) ?_
     refine C7 rfl rfl rfl (by omega) (by omega) ?_
     refine BS rfl rfl (Bh rfl rfl (A7 rfl EA rfl (BR rfl BX rfl (by rintro _ rfl; exact ((by rw [Ay (H.drew.ext.to hs hbs)]; rfl))) ?_)))
     refine BS rfl rfl (Bh rfl rfl (A7 rfl EZ rfl (BR rfl BV rfl (by rintro _ rfl; exact ((RE.fld hrow rfl (j:=1) (by rw [henc]; rfl)))) ?_)))
     refine AY rfl AO Bu rfl rfl (by omega) (by omega) ?_
     refine BR rfl Bt rfl (by rintro _ rfl; exact (((RP.ext H.drew.ext hbp).fld hgpv rfl (j:=0) rfl))) ?_
     refine Dq rfl rfl rfl (by omega) (by omega) ?_
     refine IH rfl rfl rfl (FX rfl rfl (.bool _) rfl (BJ ?_))
     rintro _ rfl
     replace H:=H.drew
     refine Aa ?_
     exact ⟨(),rfl,⟨congrArg Value.bool (by clear hgx hgx2 hgpu hgpv hcke hxie hpu hpv hms hmix hxb hfin henc hrow hgf hgt hgc; rw [Bool.eq_iff_iff]; simp_all; try omega),trivial⟩,H⟩
    ·intro h2
     replace h2:=AG h2
     refine Ax rfl (Ax rfl (Ax rfl (Ax rfl (Ax rfl (Ax rfl (Ax rfl (Ax rfl (Ax rfl (Ax rfl ?_)))))))))
     refine Ax rfl (Ax rfl (Ax rfl (Ax rfl (Ax rfl (Ax rfl (Ax rfl (Ax rfl (Ax rfl (Ax rfl ?_)))))))))
     refine Ax rfl (Ax rfl (Ax rfl (Ax rfl (Ax rfl (Ax rfl (Ax rfl (Gz rfl rfl (.bool _) rfl (BJ ?_))))))))
     rintro _ rfl
     replace H:=H.drew
     refine Aa ?_
     exact ⟨(),rfl,⟨congrArg Value.bool (by clear hgx hgx2 hgpu hgpv hcke hxie hpu hpv hms hmix hxb hfin henc hrow hgf hgt hgc; rw [Bool.eq_iff_iff]; simp_all; try omega),trivial⟩,H⟩
   ·rintro - j6 w H
    refine Aq _ rfl ?_ ?_
    ·intro h2
     have h2:=of_decide_eq_true h2
     rw [if_pos ⟨by omega,h2.2⟩] at hfin
     have ob1:=hmix i un
     have ob2:=hmix i vn
     have ob3:=hmix (i+1) un
     have ob4:=hmix (i+1) vn
     obtain ⟨ov1,hov1⟩:∃ ov1,ov1=BA g (H6 g c' x p i):=⟨_,rfl⟩
     have hgo2:(tab ov1 N)[vn]? = some (ov1 vn):=BN hvnN
     have hgo1:(tab (upd ov1 vn (ov1 vn+(ck - xi*2))) N)[un]? = some (upd ov1 vn (ov1 vn+(ck - xi*2)) un):=BN hunN
     rw [← hov1] at ob1 ob2 H
     rw [hms,hfin,← hov1] at ob3 ob4
     have ob5:upd ov1 vn (ov1 vn+(ck - xi*2)) un=ov1 un+(ck - xi*2)*one (vn=un):=by
      by_cases e:un=vn
      ·rw [e,CT,ET rfl]; omega
      ·rw [DG e,EB (Ne.symm e)]; omega
     have ob6:∀ u,one (vn=u)=0∨one (vn=u)=1:=fun u=>by unfold one; split <;> omega
     have ob7:=ob6 un
     have ob8 : -1801439850948198400≤upd ov1 vn (ov1 vn+(ck - xi*2)) un∧upd ov1 vn (ov1 vn+(ck - xi*2)) un≤1801439850948198400:=by
      rw [ob5]
      rcases ob7 with h | h <;> rw [h] <;> omega
     refine DE (fun x=>x=_) B0 (by kernel_rfl) rfl ?_
     refine BS rfl rfl (Bh rfl rfl (A7 rfl DP rfl (BR rfl Bt rfl (by rintro _ rfl; exact (((hRE (H.drew.get at3)).fld hrow rfl (j:=2) (by rw [henc]; rfl)))) ?_)))
     refine BS rfl rfl (Bh rfl rfl (A7 rfl E8 rfl (BR rfl BX rfl (by rintro _ rfl; exact ((by rw [Ay (H.drew.ext.to hs hbs)]; rfl))) ?_)))
     refine AP rfl rfl (AY rfl AO Bu rfl rfl (by omega) (by omega) ?_)
     refine BR rfl Bt rfl (by rintro _ rfl; exact (((Cs (H.drew.get at1)).fld hgx2 rfl (j:=0) rfl))) ?_
     refine Dq rfl rfl rfl (by omega) (by omega) ?_
     refine C8 rfl rfl (BJ ?_)
     rintro _ rfl
     replace H:=H.drew
     refine Af (A2 rfl rfl (AJ rfl rfl (Ah rfl E8 rfl (Bb rfl BX rfl ((by rw [Ay (H.ext.to hs hbs)]; rfl)) ?_))))
     refine Ad rfl rfl (Bg rfl AO Bu rfl rfl (by omega) (by omega) ?_)
     refine Bb rfl Bt rfl (((Cs (H.get at1)).fld hgx2 rfl (j:=0) rfl)) ?_
     refine Ad rfl rfl (Ap rfl rfl rfl (by omega) (by omega) ?_)
     refine Bg rfl AO Bu rfl rfl (by omega) (by omega) ?_
     refine BU i (fun z => .int .i64 (if z=i then ck else flW g c' x p i z)) (.int _ _) rfl Bu rfl rfl rfl H at1 (by simp) hil (by rw [if_pos rfl]; congr 1; omega) (fun z _ hz=>by dsimp only; rw [if_neg hz,if_neg hz]) ?_
     rintro w H
     refine Ab (Aa (DK 13 B0 (by kernel_rfl) rfl rfl ?_))
     refine BS rfl rfl (Bh rfl rfl (A7 rfl Gf rfl (BR rfl BX rfl (by rintro _ rfl; exact ((by rw [Ay (H.drew.ext.to hs hbs)]; rfl))) ?_)))
     refine BS rfl rfl (Bh rfl rfl (A7 rfl EZ rfl (BR rfl BV rfl (by rintro _ rfl; exact (((hRE (H.drew.get at3)).fld hrow rfl (j:=1) (by rw [henc]; rfl)))) ?_)))
     refine AY rfl AO Bu rfl rfl (by omega) (by omega) ?_
     refine BR rfl Bt rfl (by rintro _ rfl; exact (((Cs (H.drew.get at2)).fld hgo2 rfl (j:=0) rfl))) ?_
     refine AP rfl rfl (C7 rfl rfl rfl (by omega) (by omega) ?_)
     refine AY rfl AO Bu rfl rfl (by omega) (by omega) ?_
     refine BJ ?_
     replace H:=H.drew
     refine BU vn (fun z => .int .i64 (upd ov1 vn (ov1 vn+(ck - xi*2)) z)) (.int _ _) rfl Bu rfl rfl rfl H at2 (by simp) hvnN (by rw [CT]) (fun z _ hz=>by rw [DG hz]) ?_
     rintro w H
     refine Ab (Aa (EM 13 B0 (by kernel_rfl) rfl rfl ?_))
     refine BS rfl rfl (Bh rfl rfl (A7 rfl Gf rfl (BR rfl BX rfl (by rintro _ rfl; exact ((by rw [Ay (H.drew.ext.to hs hbs)]; rfl))) ?_)))
     refine BS rfl rfl (Bh rfl rfl (A7 rfl EY rfl (BR rfl BV rfl (by rintro _ rfl; exact (((hRE (H.drew.get at3)).fld hrow rfl (j:=0) (by rw [henc]; rfl)))) ?_)))
     refine AY rfl AO Bu rfl rfl (by omega) (by omega) ?_
     refine BR rfl Bt rfl (by rintro _ rfl; exact (((Cs (H.drew.get at2)).fld hgo1 rfl (j:=0) rfl))) ?_
     refine AP rfl rfl (Dq rfl rfl rfl (by omega) (by omega) ?_)
     refine AY rfl AO Bu rfl rfl (by omega) (by omega) ?_
     refine BJ ?_
     replace H:=H.drew
     refine BU un (fun z => .int .i64 (upd (upd ov1 vn (ov1 vn+(ck - xi*2))) un (upd ov1 vn (ov1 vn+(ck - xi*2)) un - (ck - xi*2)) z)) (.int _ _) rfl Bu rfl rfl rfl H at2 (by simp) hunN (by rw [CT]) (fun z _ hz=>by rw [DG hz]) ?_
     rintro w H
     refine Ab (A5 (Aa (Av (Ap rfl rfl rfl (by omega) (by omega) ?_))))
     refine Ad rfl rfl (Ab (Aa ?_))
     have e1:BE (fun z=>if z=i then ck else flW g c' x p i z) es.length=BE (flW g c' x p (i+1)) es.length:=List.map_congr_left fun z _=>by
      dsimp only
      by_cases e:z=i
      ·subst e
       rw [if_pos rfl]; unfold flW; rw [if_pos (by omega),hfin]
      ·rw [if_neg e,W8 e]
     have e2:BE (upd (upd ov1 vn (ov1 vn+(ck - xi*2))) un (upd ov1 vn (ov1 vn+(ck - xi*2)) un - (ck - xi*2))) N=BE (BA g (H6 g c' x p (i+1))) N:=List.map_congr_left fun z _=>by
      congr 1
      rw [hms,hfin,← hov1]
      by_cases e:z=un
      ·subst e
       rw [CT,ob5,ET rfl]
       rcases ob7 with h | h <;> rw [h] <;> omega
      ·rw [DG e,EB (p:=un=z) (Ne.symm e)]
       by_cases e3:z=vn
       ·subst e3
        rw [CT,ET rfl]; omega
       ·rw [DG e3,EB (Ne.symm e3)]; omega
     refine ⟨(i+1,full2),rfl,⟨rfl,trivial⟩,⟨by dsimp only; omega,O1,?_⟩,by dsimp only; omega⟩
     dsimp only [FL]
     rw [← e1,← e2]
     exact H
    ·intro h2
     have h2:=of_decide_eq_false h2
     rw [if_neg (fun h=>h2 ⟨by omega,h.2⟩)] at hfin
     refine Ao (A5 (Aa (Av (Ap rfl rfl rfl (by omega) (by omega) ?_))))
     refine Ad rfl rfl (Ab (Aa ?_))
     have e1:BE (fun z=>if z=i then xi*2 else flW g c' x p i z) es.length=BE (flW g c' x p (i+1)) es.length:=List.map_congr_left fun z _=>by
      dsimp only
      by_cases e:z=i
      ·subst e
       rw [if_pos rfl]; unfold flW; rw [if_pos (by omega),hfin]; congr 1; omega
      ·rw [if_neg e,W8 e]
     have e2:BE (BA g (H6 g c' x p i)) N=BE (BA g (H6 g c' x p (i+1))) N:=List.map_congr_left fun z _=>by
      congr 1
      rw [hms,hfin,Int.sub_self,Int.zero_mul,Int.add_zero]
     refine ⟨(i+1,full2),rfl,⟨rfl,trivial⟩,⟨by dsimp only; omega,O1,?_⟩,by dsimp only; omega⟩
     dsimp only [FL]
     rw [← e1,← e2]
     exact H
  ·intro h1
   replace h1:=AG h1
   refine Bc (Ak (Ak (AD (Db rfl rfl ?_))))
   obtain rfl:i=es.length:=by omega
   rw [JA (d:=c') fun i hi=>by unfold I9; rw [if_pos hi]] at O
   have e1:BE (flW g c' x p es.length) es.length=BE (Jo g c' x p) es.length:=List.map_congr_left fun z hz=>by
    unfold flW; rw [if_pos (List.mem_range.1 hz)]
   have e2:BE (BA g (H6 g c' x p es.length)) N=BE (BA g (Jo g c' x p)) N:=List.map_congr_left fun z _=>by
    congr 1
    refine Ke (fun i hi=>?_) z
    rw [← hgE]; exact XS hi
   refine ⟨rfl,full1,O,?_⟩
   have H:=H.tail
   dsimp only [FL] at H ⊢
   rw [e1,e2] at H
   exact H

end Go.Proofs.YtapphbmlkdhnmaaGreat

/- The solver: a way is filled: what the walk needs. -/
namespace Go.Proofs.YtapphbmlkdhnmaaGreat
open Go.GV
attribute [local irreducible] AL W Wq Wt

section
variable {P:Program} {r:Option Nat} {ops rest:List Oper} {Q:Exit→Env→World→Prop} {e:Env} {w:World} {dst:Option Tmp} {ty:TypeId} {pos:String} {af:Array Edge} {gd:Option (Nat × Bool)} {t t2:TypeId} {x y:Operand} {a b:Int}
/-- An addition, with what does not fit cut off. -/
theorem LG (hg:AX ⟨dst,.binOp .add t x y t2,ty,pos,af,gd⟩ ops e=true) (hx:ev e x = .int .i64 a) (hy:ev e y = .int .i64 b)
  (h:∀ z,AL P r ops Q rest (put e dst (.int .i64 z)) w):AL P r ops Q (⟨dst,.binOp .add t x y t2,ty,pos,af,gd⟩::rest) e w:=BH (v := .int .i64 (IntKind.i64.wrap (a+b))) hg rfl (Ca hx hy (by simp [binOp,Op.intArith])) (h _)
theorem U6 {D1 D2:Nat} {ds:List Deferred} {K:World→Prop} (h2:w.heap[D2]? = some (.deferred (some []))) (h1:w.heap[D1]? = some (.deferred (some []))) (hne:D1≠D2) (hds:ds=[{ target := .collected D2,args:=#[] },{ target := .collected D1,args:=#[] }]) (hK:∀ wF,Ext [D2,D1] w wF→K wF):Marks ds w K:=by
 subst hds
 have x2:=Ext.setB w D2 (.deferred none)
 have x1:=Ext.setB (w.putObj D2 (.deferred none)) D1 (.deferred none)
 refine ⟨D2,rfl,h2,D1,rfl,x2.to h1 (by rw [List.mem_singleton]; exact hne),hK _ ((x2.mono (by simp)).trans (x1.mono (by simp)))⟩
end
theorem Rd.map {α β:Type} {w:World} {a:Option Addr} {s:Nat} {enc:α→List Value} {f:β→α} {xs:List β} (R:Rd w a s (fun x=>enc (f x)) xs):Rd w a s enc (xs.map f):=by
 refine ⟨fun h=>R.some' fun h'=>h (by rw [h']; rfl),fun i x hx j v hv hj=>?_⟩
 rw [List.getElem?_map] at hx
 obtain ⟨y,hy,rfl⟩:=Option.map_eq_some_iff.1 hx
 exact R.cell i y hy j v hv hj
/-- Where a way back begins. -/
def QC (g:Gr) (v:Nat) (l:List Nat):Nat:=l.foldl (fun _ a=>g.u a) v
theorem U7 {g:Gr} {v i a:Nat} {l:List Nat} (h:l[i]? = some a):QC g v (l.take (i+1))=g.u a:=by
 unfold QC
 rw [Eo h,List.foldl_append]; rfl
theorem Oj {g:Gr} {cap x p:Nat→Int} {s:Lb} {by':Nat→Option Nat} (hB:Bys g cap x p s by'):∀ {k v:Nat},s.d v ≠ -1→s.h v=k→QC g v (DT by' g k v)=LC by' g k v
 | 0,_,_,_=>rfl
 | k+1,v,hd,hk=>by
  obtain ⟨a,h1,h2,h3⟩:=hB.2 v hd (by omega)
  have hh:=h2.h
  rw [h3,hk] at hh
  obtain ⟨e1,e2⟩:=G7 (g:=g) (k:=k) h1
  rw [e1,e2,← Oj hB h2.du (by omega)]
  rfl
theorem U8 {m:Int} {x:Nat→Int} {l:List Nat} {i a:Nat} (h:l[i]? = some a):Fi m x (l.take (i+1))=HQ m (Fi m x (l.take i)) a:=by
 unfold Fi
 rw [Eo h,List.foldl_append]; rfl
theorem LH {N:Int} {es:List Ed} {x p:Nat→Int} (hr:Cb N es=true) (h:Fine (grE N es) (Co es) x p):BG N es (tab x es.length)=true:=by
 have h1:=W7 (c:=Co es) (x:=x) hr (fun i hi=>by have:=Md hr i hi; omega) (fun i hi=>h.in' i hi)
 rw [Nc] at h1
 exact h1
theorem Yu {N:Nat} {p:Nat→Int} (hp:∀ v,v<N → -1073741824≤p v∧p v≤1073741824):EU (N:Int) (tab p N)=true:=by
 unfold EU
 rw [CQ,decide_eq_true rfl,Bool.and_true]
 refine List.all_eq_true.2 fun x hx=>?_
 obtain ⟨i,hi⟩:=List.getElem?_of_mem hx
 obtain ⟨h1,rfl⟩:=Li hi
 have:=hp i h1
 unfold JJ
 simp only [Bool.and_eq_true,decide_eq_true_eq]
 omega
theorem Ctx.ltI {w0 w:World} {S:List Nat} {L:List (Nat × Obj)} (H:Ctx w0 S w L):∀ b∈L.map (·.1),b<w.heap.size:=fun b hb=>by
 obtain ⟨y,hy,rfl⟩:=List.mem_map.1 hb
 exact Bp (H.blk y hy)
theorem Ga {L L':List (Nat × Obj)} (h:(L++L').Pairwise (fun x y=>x.1≠y.1)) {x:Nat × Obj} (hx:x∈L'):x.1∉L.map (·.1):=fun hm=>by
 obtain ⟨y,hy,he⟩:=List.mem_map.1 hm
 exact (List.pairwise_append.1 h).2.2 y hy x hx he
theorem U9 {α:Type} {R:α→α→Prop} {l:List α} (h:l.Pairwise R) {i:Nat} {a:α} (ha:l[i]? = some a):∀ b∈l.take i,R b a:=fun b hb=>by
 rw [← List.take_append_drop i l] at h
 exact (List.pairwise_append.1 h).2.2 b hb a (List.mem_of_getElem? (i:=0) (by rw [List.getElem?_drop]; exact ha))
theorem Yv {N:Nat} {p:Nat→Int} (hpn:EF (tab p N)=p) (hpb:∀ v,v<N → -1073741824≤p v∧p v≤1073741824) (v:Nat) : -1152921504606846976≤p v∧p v≤1152921504606846976:=by
 rcases Nat.lt_or_ge v N with h | h
 ·have:=hpb v h; omega
 ·rw [← hpn]
  unfold EF
  rw [List.getD_eq_getElem?_getD,List.getElem?_eq_none (by rw [CQ]; exact h)]
  exact ⟨by decide,by decide⟩
/-- The solver's blocks. -/
abbrev SL (bs bf bp bo:Nat) (N:Nat) (ae:Option Addr) (n ce:Nat) (k:Int) (x p ov:Nat→Int) (full:List Value):List (Nat × Obj) :=
 (bs,Bl 170 (SC N ae n ce bf bp bo k))::(bf,Bl 2 (BE x n))::(bp,Bl 2 (BE p N))::(bo,Bl 2 (BE ov N))::ent ae 92 full
theorem Abw {ov:Nat→Int} {N:Nat}:(∀ v∈Hj ov N,v<N)∧(Hj ov N).Nodup∧∀ v,v∈Hj ov N↔v<N∧0<ov v:=by
 have h:∀ v,v∈Hj ov N↔v<N∧0<ov v:=fun v=>by unfold Hj; rw [List.mem_filter,List.mem_range,decide_eq_true_eq]
 exact ⟨fun v hv=>((h v).1 hv).1,List.nodup_range.filter _,h⟩

end Go.Proofs.YtapphbmlkdhnmaaGreat
