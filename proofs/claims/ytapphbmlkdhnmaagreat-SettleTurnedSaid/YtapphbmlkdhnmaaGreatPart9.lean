/- Part 9 of the proof. -/
import Derived.Test.YtapphbmlkdhnmaaGreatPart2
import Derived.Test.YtapphbmlkdhnmaaGreatPart8
import Derived.Test.YtapphbmlkdhnmaaGreatPart3
import Derived.Test.YtapphbmlkdhnmaaGreatPart6
/- The dues: Of. -/
namespace Go.Proofs.YtapphbmlkdhnmaaGreat
open Go.GV
attribute [local irreducible] AL W Wq Wt

/-- Dues by their numbers, each of which may be. -/
def Fb (nx:Int):Int→List Du→Bool
 | _,[]=>true
 | ah,d::ds=>(DS d && (decide (ah<d.id) && decide (d.id<nx))) && Fb nx d.id ds
def HC (ah:Int):List Du→Int
 | []=>ah
 | d::ds=>HC d.id ds
theorem Gn (nx:Int):∀ (ah:Int) (ds es:List Du),Fb nx ah (ds++es)=(Fb nx ah ds && Fb nx (HC ah ds) es)
 | _,[],_=>rfl
 | ah,d::ds,es=>by simp only [List.cons_append,Fb,HC,Gn nx d.id ds es,Bool.and_assoc]
theorem JT (ah:Int) (ds:List Du) (d:Du):HC ah (ds++[d])=d.id:=by
 induction ds generalizing ah with
 | nil=>rfl
 | cons x ds ih=>exact ih x.id
theorem Js {nx:Int}:∀ {ah:Int} {ds:List Du},Fb nx ah ds=true→(∀ d∈ds,ah<d.id∧d.id≤HC ah ds∧d.id<nx∧DS d=true)∧(ds.map (·.id)).Pairwise (·<·)∧ah≤HC ah ds
 | _,[],_=>⟨fun _ h=>(by cases h),List.Pairwise.nil,Int.le_refl _⟩
 | ah,x::ds,h=>by
  simp only [Fb,Bool.and_eq_true,decide_eq_true_eq] at h
  obtain ⟨⟨hm,h1,h2⟩,h3⟩:=h
  obtain ⟨i1,i2,i3⟩:=Js h3
  refine ⟨fun d hd=>?_,?_,?_⟩
  ·rcases List.mem_cons.1 hd with rfl | hd
   ·exact ⟨h1,i3,h2,hm⟩
   ·obtain ⟨a,b,c,e⟩:=i1 d hd
    exact ⟨by omega,b,c,e⟩
  ·rw [List.map_cons,List.pairwise_cons]
   refine ⟨fun k hk=>?_,i2⟩
   obtain ⟨d,hd,rfl⟩:=List.mem_map.1 hk
   exact (i1 d hd).1
  ·show ah≤HC x.id ds
   omega
/-- Of's code. -/
def ofC (ds:List Du) (nx:Int):Int :=
 if 64<ds.length then 6 else if (decide (1≤nx) && decide (nx≤4611686018427387904))=false then 1 else if Fb nx 0 ds=false then 1 else (Fg (ds.map (·.am))).2
theorem Ov {xs ys:List Int} (h:xs.Perm ys):Fg xs=Fg ys:=by
 have h1:xs.all Di=ys.all Di:=by
  rw [Bool.eq_iff_iff,List.all_eq_true,List.all_eq_true]
  exact ⟨fun g x hx=>g x (h.mem_iff.2 hx),fun g x hx=>g x (h.mem_iff.1 hx)⟩
 unfold Fg
 rw [h1,UD h]
theorem Ow {ds:List Du} {k:Int} (h:∀ d∈ds,d.id≠k):Ei (dm ds) k=none:=by
 induction ds with
 | nil=>rfl
 | cons x ds ih =>
  unfold dm Ei at ih ⊢
  rw [List.map_cons,List.find?_cons,show (x.id == k)=false by simpa using h x (List.mem_cons_self ..)]
  exact ih fun d hd=>h d (List.mem_cons_of_mem _ hd)
theorem WK (ds:List Du) (d:Du):dm ds++[(d.id,Gv d)]=dm (ds++[d]):=by unfold dm; rw [List.map_append]; rfl
theorem WL {w:World} {b:Nat} {t:TypeId} {l:List Value} (h:w.heap[b]? = some (Bl t l)):∀ j v,l[j]? = some v→w.cell? ⟨b,0+j,none⟩=some v:=fun j v hv=>by rw [Ay h,Nat.zero_add]; exact hv
structure OSt where
 i:Nat
 ah:Int
 o:Obj
set_option maxRecDepth 20000 in
set_option maxHeartbeats 4000000 in
theorem WM (a:Option Addr) (n c:Nat) (ds:List Du) (nx:Int) (w:World) (R:Rd w a 7 Cf ds) (hn:ds.length=n) (hn2:n≤1000000000) (hnx:0≤nx∧nx<18446744073709551616) (hid:∀ d∈ds,0≤d.id∧d.id<18446744073709551616) :
  Ret Tryz.prog 57 #[.slice a n c,.int .u64 nx] w fun v w'=>∃ p,v = .tuple #[p,.int .i64 (ofC ds nx)]∧(ofC ds nx≠0→p = .pointer none)∧(ofC ds nx=0→∃ bd b o,p=ptr bd∧w'.heap[bd]? = some (Bl 123 (DU b nx))∧w'.heap[b]? = some o∧D8 .u64 (dm ds) o∧w.heap.size≤bd∧w.heap.size≤b∧bd≠b)∧Ext [] w w':=by
 subst hn
 obtain ⟨w0,rfl⟩:∃ w0,w0=w:=⟨_,rfl⟩
 have H:=Ctx.start w0 []
 refine A9 (fn:=Tryz.f57) Tryz.func57 rfl [.slice a ds.length c,.int .u64 nx] rfl (by kernel_rfl) ?_
 refine Af (AW rfl rfl (Ae rfl rfl (Ab (Aa (An (Af (Aj rfl rfl (AV rfl B4 rfl (Ck rfl rfl rfl (Ab (Aa ?_)))))))))))
 refine Aq _ rfl ?_ ?_
 ·intro h1
  replace h1:=AF h1
  refine Af (AW rfl rfl (Ae rfl rfl (Ab (Aa (A8 (Al (Cq (v1:=(.pointer _)) (v2:=(.int _ _)) rfl rfl rfl rfl ?_)))))))
  have h1':ofC ds nx=6:=by unfold ofC; rw [if_pos (by omega)]
  exact ⟨_,by rw [h1'],fun _=>rfl,(fun h=>by omega),H.ext⟩
 ·intro h1
  replace h1:=AG h1
  have h1':¬ 64<ds.length:=by omega
  refine Ao (Aa (An (Af (BD (α:=Unit) 2064384 (fun _=>[(20,.bool (!(decide (1≤nx) && decide (nx≤4611686018427387904))))]) (fun _ w'=>w'=w0) rfl ?_ ?_))))
  ·refine Ad rfl rfl (AZ rfl rfl rfl (Aw rfl rfl (AE 17 rfl ?_ ?_)))
   ·intro h1
    replace h1:=AF h1
    refine Ag rfl (Ag rfl (AA rfl rfl (.bool _) rfl (Ab ?_)))
    exact ⟨rfl,(),rfl,⟨congrArg Value.bool (by rw [Bool.eq_iff_iff]; simp_all; try omega),trivial⟩,rfl⟩
   ·intro h2
    replace h2:=AG h2
    refine Ad rfl rfl (Ck rfl rfl rfl (A6 rfl rfl (.bool _) rfl (Ab ?_)))
    exact ⟨rfl,(),rfl,⟨congrArg Value.bool (by rw [Bool.eq_iff_iff]; simp_all; try omega),trivial⟩,rfl⟩
  rintro - j20 w hw
  subst w
  refine Aq _ rfl ?_ ?_
  ·intro h2
   replace h2:=Bv h2
   refine Af (AW rfl rfl (Ae rfl rfl (Ab (Aa (A8 (Al (Cq (v1:=(.pointer _)) (v2:=(.int _ _)) rfl rfl rfl rfl ?_)))))))
   have h2':ofC ds nx=1:=by unfold ofC; rw [if_neg h1',if_pos (by simpa using h2)]
   exact ⟨_,by rw [h2'],fun _=>rfl,(fun h=>by omega),H.ext⟩
  ·intro h2
   replace h2:=Bw h2
   have h2':(decide (1≤nx) && decide (nx≤4611686018427387904))=true:=by simpa using h2
   have h2n:¬ (decide (1≤nx) && decide (nx≤4611686018427387904))=false:=by rw [h2']; decide
   refine Ao (Aa (Af (Mz .u64 rfl H ?_)))
   rintro b o w hM H
   refine Ad rfl rfl (CE (DU b nx) rfl VS Wa (by kernel_rfl) ?_)
   refine BC rfl (DU b nx) (.agg _) rfl rfl H ?_
   rintro b24 w - H
   refine AW rfl rfl (Ab (Aa (Af (Ae rfl rfl (Ab (Aa (An (Af (Aj rfl rfl (AV rfl B4 rfl (Ad rfl rfl ?_)))))))))))
   refine Ab (Aa (Au (Bf 288230376017494704 (α:=OSt) (fun t=>[(7,.int .u64 t.ah),(27,.int .i64 (t.i:Int))]) (fun t w'=>t.i≤ds.length∧t.ah=HC 0 (ds.take t.i)∧Fb nx 0 (ds.take t.i)=true∧D8 .u64 (dm (ds.take t.i)) t.o∧Ctx w0 [] w' [(b24,Bl 123 (DU b nx)),(b,t.o)]) (fun t=>ds.length - t.i) ⟨0,0,o⟩ rfl ?_ ?_ ?_)))
   ·exact ⟨rfl,rfl,trivial⟩
   ·exact ⟨Nat.zero_le _,rfl,rfl,hM,H⟩
   ·rintro ⟨i,ah,o⟩ j w ⟨hi,hah,has,hM,H⟩; dsimp only at hi hah has hM H; dsimp only
    refine Af (AZ rfl rfl rfl (Ab (Aa (An (Aq _ rfl ?_ ?_)))))
    ·intro h3
     replace h3:=AF h3
     obtain ⟨d,hd⟩:=A0 (l:=ds) (i:=i) (by omega)
     have hdi:=hid d (List.mem_of_getElem? hd)
     have htk:ds.take (i+1)=ds.take i++[d]:=by rw [List.take_add_one,hd]; rfl
     have hasc:Fb nx 0 (ds.take (i+1))=(DS d && (decide (ah<d.id) && decide (d.id<nx))):=by
      rw [htk,Gn,has,Bool.true_and,← hah]
      show (_ && Fb nx d.id [])=_
      show (_ && true)=_
      rw [Bool.and_true]
     refine Ao (Aa (An (Au (Af (AK R rfl B4 B2 rfl rfl (by omega) (by omega) (by rfl) ?_)))))
     refine Cv _ rfl E7 B2 rfl rfl ((R.ext0 H.ext).row hd rfl) ?_
     refine Bj rfl Eh H ?_
     rintro b9 w - H
     refine B5 rfl B2 rfl rfl rfl (by exact DM _) H at0 rfl ?_
     rintro w H
     refine Ab (Aa (An (Af (BD (α:=Unit) 70366596694016 (fun _=>[(45,.bool (!(DS d && (decide (ah<d.id) && decide (d.id<nx)))))]) (fun _ w'=>Ctx w0 [] w' [(b9,Bl 62 (Cf d)),(b24,Bl 123 (DU b nx)),(b,o)]) rfl ?_ ?_))))
     ·refine B6 rfl E7 B2 rfl H at0 rfl (Am rfl V4 (TM d _) rfl ?_)
      rintro v w ⟨rfl,hx32⟩
      replace H:=H.call hx32
      refine B1 rfl rfl (Aw rfl rfl (AE 34 rfl ?_ ?_))
      ·intro h3
       replace h3:=Bv h3
       refine Ag rfl (Ag rfl (Ag rfl (Ag rfl (AA rfl rfl (.bool _) rfl (Aw rfl rfl (Ag rfl (Ag rfl (Ag rfl (Ag rfl ?_)))))))))
       refine AA rfl rfl (.bool _) rfl (Ab ?_)
       exact ⟨rfl,(),rfl,⟨congrArg Value.bool (by clear hasc; rw [Bool.eq_iff_iff]; simp_all; try omega),trivial⟩,H⟩
      ·intro h4
       replace h4:=Bw h4
       refine Ah rfl Dw rfl (AN rfl BK rfl H at0 rfl (Ad rfl rfl (JY rfl rfl rfl (A6 rfl rfl (.bool _) rfl (Aw rfl rfl (AE 40 rfl ?_ ?_))))))
       ·intro h5
        replace h5:=AF h5
        refine Ag rfl (Ag rfl (Ag rfl (Ag rfl (AA rfl rfl (.bool _) rfl (Ab ?_)))))
        exact ⟨rfl,(),rfl,⟨congrArg Value.bool (by clear hasc; rw [Bool.eq_iff_iff]; simp_all; try omega),trivial⟩,H⟩
       ·intro h6
        replace h6:=AG h6
        refine Ah rfl Dw rfl (AN rfl BK rfl H at0 rfl (Ad rfl rfl (Cx rfl rfl rfl (A6 rfl rfl (.bool _) rfl (Ab ?_)))))
        exact ⟨rfl,(),rfl,⟨congrArg Value.bool (by clear hasc; rw [Bool.eq_iff_iff]; simp_all; try omega),trivial⟩,H⟩
     rintro - j45 w H
     refine Aq _ rfl ?_ ?_
     ·intro h4
      replace h4:=Bv h4
      refine Af (AW rfl rfl (Ae rfl rfl (Ab (Aa (A8 (Al (A1 (Al (Al (A1 (Al (Cq (v1:=(.pointer _)) (v2:=(.int _ _)) rfl rfl rfl rfl ?_))))))))))))
      have h4':ofC ds nx=1:=by
       unfold ofC
       rw [if_neg h1',if_neg h2n,if_pos]
       have h5:Fb nx 0 ds=Fb nx 0 (ds.take (i+1)++ds.drop (i+1)):=by rw [List.take_append_drop]
       rw [h5,Gn,hasc,show (DS d && (decide (ah<d.id) && decide (d.id<nx)))=false by simpa using h4]; rfl
      exact ⟨_,by rw [h4'],fun _=>rfl,(fun h=>by omega),H.ext⟩
     ·intro h4
      replace h4:=Bw h4
      have h4':(DS d && (decide (ah<d.id) && decide (d.id<nx)))=true:=by simpa using h4
      have hgt:ah<d.id:=by simp only [Bool.and_eq_true,decide_eq_true_eq] at h4'; exact h4'.2.1
      have hno:Ei (dm (ds.take i)) d.id=none:=Ow fun x hx=>by
       have:=((Js has).1 x hx).2.1
       omega
      refine Ao (Aa (Fq [([0,1,2,3,4,5,6,7,8],9),([10],11),([],12)] (fun z=>z.heap[b9]? = some (Bl 62 (Cf d))∧z.heap[b24]? = some (Bl 123 (DU b nx))) [] B0 (by kernel_rfl) (⟨H.drew.get at0,H.drew.get at1⟩) ?_))
      refine AU rfl rfl ?_
      refine Ch rfl rfl (B3 rfl rfl (AH rfl EQ rfl (BP rfl Gq rfl (fun _ hx=>(by rw [Ay hx.2]; rfl)) ?_)))
      refine AH rfl Dw rfl (BP rfl BK rfl (fun _ hx=>(by rw [Ay hx.1]; rfl)) ?_)
      refine GJ _ rfl E7 B2 rfl rfl (fun _ hx=>(WL hx.1)) ?_
      refine AH rfl Dw rfl (BP rfl BK rfl (fun _ hx=>(by rw [Ay hx.1]; rfl)) ?_)
      refine Ba ?_
      replace H:=H.drew
      refine Ql rfl GN Gx Qy rfl rfl H at2 hM hno ?_
      rintro st o1 w hE H
      refine Ab (BL (⟨H.get at0,H.get at1⟩) (AU rfl rfl ?_))
      refine BM rfl rfl rfl (Ba (N4 (Gv d) rfl rfl rfl rfl H at2 hE ?_))
      rintro o2 w hM2 H
      refine Ab (BL (⟨H.get at0,H.get at1⟩) (AU rfl rfl ?_))
      refine Ba (Ae rfl rfl (Ab (BL (⟨H.get at0,H.get at1⟩) (BO (A5 (Aa (Av (Ap rfl rfl rfl (by omega) (by omega) ?_))))))))
      refine Ad rfl rfl (Ab (Aa ?_))
      exact ⟨⟨i+1,d.id,o2⟩,rfl,⟨rfl,rfl,trivial⟩,⟨by dsimp only; omega,by dsimp only; rw [htk,JT],by dsimp only; rw [hasc]; exact h4',by dsimp only; rw [htk,← WK]; exact hM2,H.tail⟩,by dsimp only; omega⟩
    ·intro h3
     replace h3:=AG h3
     obtain rfl:i=ds.length:=by omega
     rw [List.take_length] at hM has
     have hC:ofC ds nx=(Fg (ds.map (·.am))).2:=by
      unfold ofC; rw [if_neg h1',if_neg h2n,if_neg (by rw [has]; decide)]
     rw [hC]
     obtain ⟨tt,htt⟩:∃ tt,tt=Fg (ds.map (·.am)):=⟨_,rfl⟩
     rw [← htt]
     refine Bc (Ak (Ak (AD (Aa (An (Af (A2 rfl rfl (Am rfl V5 (Ng _ (H.get at0) (H.get at1) hM (by omega)) rfl ?_))))))))
     rintro v w ⟨l,hlp,F⟩
     obtain ⟨a3,n3,c3,f3,rfl,O3,hb3⟩:=F.ex
     replace H:=H.call F.ext
     have hl3:=O3.llen
     rw [List.length_map] at hl3
     have hlq:=hlp.length_eq
     rw [List.length_map] at hlq
     refine Am rfl Pn (Me a3 n3 c3 l _ (O3.rd1 fun x hx=>(hb3 x hx).1) (by omega) (by omega)) rfl ?_
     rintro v w ⟨rfl,rfl⟩
     rw [Ov hlp]
     rw [← htt]
     refine B9 rfl rfl (A3 rfl rfl rfl (A3 rfl rfl rfl (Ae rfl rfl (Ae rfl rfl (Ab (Aa (Af (Ad rfl rfl (Cp rfl rfl rfl (Ab (Aa ?_)))))))))))
     refine Aq _ rfl ?_ ?_
     ·intro h5
      replace h5:=CY h5
      refine Af (Ad rfl rfl (AW rfl rfl (Ae rfl rfl (Ab (Aa (A8 (Al (Cq (v1:=(.pointer _)) (v2:=(.int _ _)) rfl rfl rfl rfl ?_))))))))
      exact ⟨_,rfl,fun _=>rfl,(fun h=>absurd h h5),H.ext⟩
     ·intro h5
      replace h5:=CZ h5
      refine Ao (Aa (Af (A2 rfl rfl (AW rfl rfl (Ae rfl rfl (Ab (Aa (A8 (Cq (v1:=(.pointer _)) (v2:=(.int _ _)) rfl rfl rfl rfl ?_)))))))))
      have h5':tt.2=0:=by omega
      refine ⟨_,by rw [h5'],(fun h=>absurd h5' h),(fun _=>⟨b24,b,o,rfl,H.get at0,H.get at1,hM,?_,?_,H.ne at0 at1 (by decide)⟩),H.ext⟩
      ·exact (H.own (b24,_) (List.mem_of_getElem? (i:=0) rfl)).elim (fun h=>by cases h) id
      ·exact (H.own (b,_) (List.mem_of_getElem? (i:=1) rfl)).elim (fun h=>by cases h) id
end Go.Proofs.YtapphbmlkdhnmaaGreat

/- The accounts: Of, their balances, their rooms. -/
namespace Go.Proofs.YtapphbmlkdhnmaaGreat
open Go.GV
attribute [local irreducible] AL W Wq Wt

structure Ac where
 ba:Int
 re:Int
instance:DecidableEq Ac:=fun x y=>if h:x.ba=y.ba∧x.re=y.re then isTrue (by cases x; cases y; simp_all) else isFalse fun e=>h (by subst e; exact ⟨rfl,rfl⟩)
abbrev CB (a:Ac):List Value:=[.int .i64 a.ba,.int .i64 a.re]
theorem Ia (a:Ac):∀ v∈CB a,Bm v=true:=by simp [CB,Bm]
theorem Ox (acs:List Ac):∀ v∈acs.flatMap CB,Bm v=true:=fun v hv=>by
 obtain ⟨a,_,h⟩:=List.mem_flatMap.1 hv
 exact Ia a v h
theorem KG (acs:List Ac):(acs.flatMap CB).length=acs.length*2:=by
 induction acs with
 | nil=>rfl
 | cons a acs ih =>
  rw [List.flatMap_cons,List.length_append,ih]
  show 2+acs.length*2=(acs.length+1)*2
  omega
theorem Oy (a:Option Addr) (n c:Nat) (acs:List Ac) (w:World) (R:Rd w a 2 CB acs) (hn:acs.length=n) (hm:n≤1000000000) :
  Ret Tryz.prog 60 #[.slice a n c] w fun v w'=>Fresh w w' 64 2 v (acs.flatMap CB):=by
 subst hn
 obtain ⟨w0,rfl⟩:∃ w0,w0=w:=⟨_,rfl⟩
 have H:=Ctx.start w0 []
 refine A9 (fn:=Tryz.f60) Tryz.func60 rfl [.slice a acs.length c] rfl (by kernel_rfl) ?_
 refine Af (Az rfl rfl (Ab (Aa (An (Af (Aj rfl rfl (KX rfl CL rfl (Ab (Aa (Aq _ rfl ?_ ?_))))))))))
 ·intro h1
  have ha:a=none:=by simpa using h1
  subst ha
  have hxs:acs=[]:=by
   cases acs with
   | nil=>rfl
   | cons x xs=>obtain ⟨b,o,h⟩:=R.some' (by simp); cases h
  subst hxs
  refine Af (Az rfl rfl (Ab (Aa (A8 (Al (AB (v:=(.slice _ _ _)) rfl rfl rfl ?_))))))
  exact Fresh.nil H _ _
 ·intro h1
  refine Ao (Aa (Af (Jz rfl CL Dc H ?_)))
  rintro b5 w H O
  refine Aj rfl rfl (Fz rfl CL CL Dc V2 Hr rfl (by decide) (acs.flatMap CB) rfl rfl H O (KG acs) (Ox acs) ((R.ext0 H.ext).app (fun _ _=>rfl) (by omega)) (by omega) ?_)
  rintro a7 c7 full7 w H O
  refine Az rfl rfl (Ab (Aa (A8 (AB (v:=(.slice _ _ _)) rfl rfl rfl ?_))))
  exact H.fresh O
set_option maxRecDepth 20000 in
theorem Ib {bd:Nat} (a:Option Addr) (n c:Nat) (acs:List Ac) (w:World) (hd:w.heap[bd]? = some (Bl 116 [.slice a n c])) (R:Rd w a 2 CB acs) (hn:acs.length=n) (hm:n≤1000000000) :
  Ret Tryz.prog 16 #[ptr bd] w fun v w'=>Fresh w w' 64 2 v (acs.flatMap CB):=by
 obtain ⟨w0,rfl⟩:∃ w0,w0=w:=⟨_,rfl⟩
 have H:=Ctx.start w0 []
 refine A9 (fn:=Tryz.f16) Tryz.func16 rfl [.pointer (some ⟨bd,0,none⟩)] rfl (by kernel_rfl) ?_
 refine Af (Az rfl rfl (Ab (Aa (An (Af (A2 rfl rfl (CK rfl MO rfl ?_)))))))
 refine Ab (Aa (Aq _ rfl ?_ ?_))
 ·intro h0
  cases h0
 ·intro h0
  refine Ao (Aa (Af (A2 rfl rfl (AJ rfl rfl (Ah rfl Jh rfl (Bb rfl GK rfl ((by rw [Ay hd]; rfl)) ?_))))))
  refine Am rfl Zg (Oy a n c acs _ R hn hm) rfl ?_
  rintro v w F
  obtain ⟨a9,n9,c9,full9,rfl,O9,hb9⟩:=F.ex
  refine Az rfl rfl (Ab (Aa (A8 (AB (v:=(.slice _ _ _)) rfl rfl rfl ?_))))
  exact F
theorem Fk {α β:Type} {f:α→β} {l:List α} {i:Nat} {x:α} (h:l[i]? = some x):(l.take (i+1)).map f=(l.take i).map f++[f x]:=by
 rw [List.take_add_one,h,List.map_append]; rfl
set_option maxRecDepth 20000 in
set_option maxHeartbeats 2000000 in
theorem LI {bd:Nat} (a:Option Addr) (n c:Nat) (acs:List Ac) (w:World) (hd:w.heap[bd]? = some (Bl 116 [.slice a n c])) (R:Rd w a 2 CB acs) (hn:acs.length=n) (hm:n≤1000000) :
  Ret Tryz.prog 111 #[ptr bd] w fun v w'=>Fresh w w' 2 1 v ((acs.map (·.ba)).map FJ):=by
 subst hn
 obtain ⟨w0,rfl⟩:∃ w0,w0=w:=⟨_,rfl⟩
 have H:=Ctx.start w0 []
 refine A9 (fn:=Tryz.f111) Tryz.func111 rfl [.pointer (some ⟨bd,0,none⟩)] rfl (by kernel_rfl) ?_
 refine Af (Az rfl rfl (Ab (Aa (Af (Az rfl rfl (Ab (Aa (An (Af (A2 rfl rfl (AJ rfl rfl ?_)))))))))))
 refine Ah rfl Jh rfl (Bb rfl GK rfl ((by rw [Ay hd]; rfl)) ?_)
 refine AV rfl CL rfl (Ad rfl rfl (Ab (Aa (Au (Bf 2095144 (α:=LSt) (fun t=>[(3,.slice t.a t.i t.c),(11,.int .i64 (t.i:Int))]) (fun t w'=>t.i≤acs.length∧OS t.a t.i t.c 1 t.full (((acs.take t.i).map (·.ba)).map FJ)∧Ctx w0 [] w' (ent t.a 2 t.full)) (fun t=>acs.length - t.i) ⟨0,none,0,[]⟩ rfl ?_ ?_ ?_)))))
 ·exact ⟨rfl,rfl,trivial⟩
 ·exact ⟨Nat.zero_le _,OS.nil,H⟩
 ·rintro ⟨i,a2,c2,full⟩ j w ⟨hi,O,H⟩; dsimp only at hi O H; dsimp only
  refine Af (AZ rfl rfl rfl (Ab (Aa (An (Aq _ rfl ?_ ?_)))))
  ·intro h1
   replace h1:=AF h1
   obtain ⟨x,hx⟩:=A0 (l:=acs) (i:=i) (by omega)
   refine Ao (Aa (An (Au (Af (AK R rfl CL Dc rfl rfl (by omega) (by omega) (by rfl) ?_)))))
   refine Cv _ rfl JP Dc rfl rfl ((R.ext0 H.ext).row hx rfl) ?_
   refine Bj rfl Hr H ?_
   rintro b5 w - H
   refine B5 rfl Dc rfl rfl rfl (by exact Ia _) H at0 rfl ?_
   rintro w H
   refine Ab (Aa (Av (Aj rfl rfl (Ah rfl EJ rfl (AN rfl Bt rfl H at0 rfl (C3 _ (.int _ _) rfl AO Bu Fa rfl (by decide) (by decide) rfl rfl rfl H ?_))))))
   rintro b18 w - H
   refine Cl (L:=[_]) rfl AO AO Bu HN Fa rfl (by decide) rfl rfl H O rfl (by simp [Bm]) (by omega) ?_
   rintro a' c' full' w H O
   refine Az rfl rfl (Ab (A5 (Aa (Av (Ap rfl rfl rfl (by omega) (by omega) ?_)))))
   refine Ad rfl rfl (Ab (Aa ?_))
   exact ⟨⟨i+1,a',c',full'⟩,rfl,⟨rfl,rfl,trivial⟩,⟨by dsimp only; omega,by dsimp only; rw [Fk hx,List.map_append]; exact O,H.tail⟩,by dsimp only; omega⟩
  ·intro h1
   replace h1:=AG h1
   refine Bc (Ak (Ak (AD (Aa (Af (Aj rfl rfl (Az rfl rfl (Ab (Aa (A8 (AB (v:=(.slice _ _ _)) rfl rfl rfl ?_)))))))))))
   obtain rfl:i=acs.length:=by omega
   rw [List.take_length] at O
   exact Ctx.fresh (L:=[]) H O
def Ce (a:Ac):Int:=max 0 (a.ba - a.re)
def F3 (a:Ac):Bool:=Di a.ba && Di a.re
set_option maxRecDepth 20000 in
set_option maxHeartbeats 2000000 in
theorem WN {bd:Nat} (a:Option Addr) (n c:Nat) (acs:List Ac) (w:World) (hd:w.heap[bd]? = some (Bl 116 [.slice a n c])) (R:Rd w a 2 CB acs) (hn:acs.length=n) (hm:n≤1000000) (hmay:∀ x∈acs,F3 x=true) :
  Ret Tryz.prog 26 #[ptr bd] w fun v w'=>Fresh w w' 2 1 v ((acs.map Ce).map FJ):=by
 obtain ⟨w0,rfl⟩:∃ w0,w0=w:=⟨_,rfl⟩
 refine A9 (fn:=Tryz.f26) Tryz.func26 rfl [.pointer (some ⟨bd,0,none⟩)] rfl (by kernel_rfl) ?_
 refine Af (Az rfl rfl (Ab (Aa (Af (Az rfl rfl (Ab (Aa (An (Af (A2 rfl rfl (Am rfl NX (Ib a n c acs _ hd R hn (by omega)) rfl ?_)))))))))))
 rintro v w F
 obtain ⟨a7,n7,c7,full7,rfl,O7,hb7⟩:=F.ex
 have hl7:=O7.llen
 rw [KG] at hl7
 obtain rfl:acs.length=n7:=by omega
 refine AV rfl CL rfl (Ad rfl rfl (Ab (Aa (Au ?_))))
 obtain ⟨w1,rfl⟩:∃ z,z=w:=⟨_,rfl⟩
 have H:=Ctx.start w1 []
 have R7:Rd w1 a7 2 CB acs:=OS.rd O7 (fun x hx=>(hb7 x hx).1) (fun _ _=>rfl) (by omega)
 refine Bf 8388136 (α:=LSt) (fun t=>[(3,.slice t.a t.i t.c),(9,.int .i64 (t.i:Int))]) (fun t w'=>t.i≤acs.length∧OS t.a t.i t.c 1 t.full (((acs.take t.i).map Ce).map FJ)∧Ctx w1 [] w' (ent t.a 2 t.full)) (fun t=>acs.length - t.i) ⟨0,none,0,[]⟩ rfl ?_ ?_ ?_
 ·exact ⟨rfl,rfl,trivial⟩
 ·exact ⟨Nat.zero_le _,OS.nil,H⟩
 ·rintro ⟨i,a2,c2,full⟩ j w ⟨hi,O,H⟩; dsimp only at hi O H; dsimp only
  refine Af (AZ rfl rfl rfl (Ab (Aa (An (Aq _ rfl ?_ ?_)))))
  ·intro h1
   replace h1:=AF h1
   obtain ⟨x,hx⟩:=A0 (l:=acs) (i:=i) (by omega)
   have hxm:=hmay x (List.mem_of_getElem? hx)
   have hx2:(0≤x.ba∧x.ba≤4503599627370496)∧0≤x.re∧x.re≤4503599627370496:=by
    unfold F3 at hxm
    rw [Bool.and_eq_true,Da,Da] at hxm
    exact hxm
   refine Ao (Aa (An (Au (Af (AK R7 rfl CL Dc rfl rfl (by omega) (by omega) (by rfl) ?_)))))
   refine Cv _ rfl JP Dc rfl rfl ((R7.ext0 H.ext).row hx rfl) ?_
   refine Bj rfl Hr H ?_
   rintro b5 w - H
   refine B5 rfl Dc rfl rfl rfl (by exact Ia _) H at0 rfl ?_
   rintro w H
   refine Ab (Aa (Av (Aj rfl rfl (Ah rfl EJ rfl (AN rfl Bt rfl H at0 rfl (Ah rfl Iz rfl (AN rfl Bt rfl H at0 rfl (Be rfl rfl rfl (by omega) (by omega) ?_))))))))
   refine Jy rfl rfl rfl ?_
   refine C3 _ (.int _ _) rfl AO Bu Fa rfl (by decide) (by decide) rfl rfl rfl H ?_
   rintro b20 w - H
   refine Cl (L:=[_]) rfl AO AO Bu HN Fa rfl (by decide) rfl rfl H O rfl (by simp [Bm]) (by omega) ?_
   rintro a' c' full' w H O
   refine Az rfl rfl (Ab (A5 (Aa (Av (Ap rfl rfl rfl (by omega) (by omega) ?_)))))
   refine Ad rfl rfl (Ab (Aa ?_))
   exact ⟨⟨i+1,a',c',full'⟩,rfl,⟨rfl,rfl,trivial⟩,⟨by dsimp only; omega,by dsimp only; rw [Fk hx,List.map_append]; exact O,H.tail⟩,by dsimp only; omega⟩
  ·intro h1
   replace h1:=AG h1
   refine Bc (Ak (Ak (AD (Aa (Af (Aj rfl rfl (Az rfl rfl (Ab (Aa (A8 (AB (v:=(.slice _ _ _)) rfl rfl rfl ?_)))))))))))
   obtain rfl:i=acs.length:=by omega
   rw [List.take_length] at O
   obtain ⟨⟨a3,n3,c3,f3,e1,e2,e3⟩,e4⟩:=Ctx.fresh (L:=[]) H O
   exact ⟨⟨a3,n3,c3,f3,e1,e2,fun x hx=>⟨(e3 x hx).1,Nat.le_trans F.ext.size (e3 x hx).2⟩⟩,F.ext.trans e4⟩
end Go.Proofs.YtapphbmlkdhnmaaGreat

/- The accounts: Of, Shift. -/
namespace Go.Proofs.YtapphbmlkdhnmaaGreat
open Go.GV
attribute [local irreducible] AL W Wq Wt

/-- Of's code. -/
def DB (acs:List Ac):Int:=if 16<acs.length then 6 else if acs.all F3=false then 1 else (Fg (acs.map Ac.ba)).2
set_option maxRecDepth 20000 in
set_option maxHeartbeats 4000000 in
theorem WO (a:Option Addr) (n c:Nat) (acs:List Ac) (w:World) (R:Rd w a 2 CB acs) (hn:acs.length=n) (hm:n≤1000000000) :
  Ret Tryz.prog 50 #[.slice a n c] w fun v w'=>∃ p,v = .tuple #[p,.int .i64 (DB acs)]∧(DB acs≠0→p = .pointer none)∧(DB acs=0→∃ bd a' c' full,p=ptr bd∧w'.heap[bd]? = some (Bl 116 [.slice a' acs.length c'])∧OS a' acs.length c' 2 full (acs.flatMap CB) ∧
   (∀ x∈ent a' 64 full,w'.heap[x.1]? = some x.2∧w.heap.size≤x.1∧x.1≠bd)∧w.heap.size≤bd)∧Ext [] w w':=by
 subst hn
 obtain ⟨w0,rfl⟩:∃ w0,w0=w:=⟨_,rfl⟩
 have H:=Ctx.start w0 []
 refine A9 (fn:=Tryz.f50) Tryz.func50 rfl [.slice a acs.length c] rfl (by kernel_rfl) ?_
 refine Af (AW rfl rfl (Ae rfl rfl (Ab (Aa (An (Af (Aj rfl rfl (AV rfl CL rfl (Ck rfl rfl rfl (Ab (Aa ?_)))))))))))
 refine Aq _ rfl ?_ ?_
 ·intro h1
  replace h1:=AF h1
  refine Af (AW rfl rfl (Ae rfl rfl (Ab (Aa (A8 (Al (Cq (v1:=(.pointer _)) (v2:=(.int _ _)) rfl rfl rfl rfl ?_)))))))
  have h1':DB acs=6:=by unfold DB; rw [if_pos (by omega)]
  exact ⟨_,by rw [h1'],fun _=>rfl,(fun h=>by omega),H.ext⟩
 ·intro h1
  replace h1:=AG h1
  have h1':¬ 16<acs.length:=by omega
  refine Ao (Aa (Af (Aj rfl rfl (Am rfl Zg (Oy a acs.length c acs _ R rfl hm) rfl ?_))))
  rintro v w F
  obtain ⟨a3,n3,c3,full3,rfl,O3,hb3⟩:=F.ex
  have hx13:=F.ext
  replace H:=H.call hx13
  have hl3:=O3.llen
  rw [KG] at hl3
  obtain rfl:acs.length=n3:=by omega
  obtain ⟨w13,rfl⟩:∃ z,z=w:=⟨_,rfl⟩
  replace H:=Ctx.start w13 []
  refine CE [.slice a3 acs.length c3] rfl Abc Abj (by kernel_rfl) ?_
  refine BC rfl [.slice a3 acs.length c3] (.agg _) rfl rfl H ?_
  rintro b15 w - H
  refine AW rfl rfl (Ab (Aa (An (Af (Aj rfl rfl (AV rfl CL rfl (Ad rfl rfl (Ab (Aa (Au (Bf 8589672524 (α:=Nat) (fun i=>[(18,.int .i64 (i:Int))]) (fun i w'=>i≤acs.length∧Ctx w13 [] w' [(b15,Bl 116 [.slice a3 acs.length c3])]∧(∀ (k:Nat) (x:Ac),k<i→acs[k]? = some x→F3 x=true)) (fun i=>acs.length - i) 0 rfl ?_ ?_ ?_)))))))))))
  ·exact ⟨rfl,trivial⟩
  ·exact ⟨Nat.zero_le _,H,(fun k x h=>absurd h (Nat.not_lt_zero _))⟩
  ·rintro i j w ⟨hi,H,hall⟩
   obtain ⟨w1,rfl⟩:∃ z,z=w:=⟨_,rfl⟩
   have R1:=R.ext0 (hx13.trans H.ext)
   have hd1:=H.get at0
   have H1:=H
   clear H
   have H:=Ctx.start w1 []
   refine Af (AZ rfl rfl rfl (Ab (Aa (An (Aq _ rfl ?_ ?_)))))
   ·intro h2
    replace h2:=AF h2
    obtain ⟨x,hx⟩:=A0 (l:=acs) (i:=i) (by omega)
    refine Ao (Aa (An (Au (Af (AK R1 rfl CL Dc rfl rfl (by omega) (by omega) (by rfl) ?_)))))
    refine Cv _ rfl JP Dc rfl rfl ((R1.ext0 H.ext).row hx rfl) ?_
    refine Bj rfl Hr H ?_
    rintro b6 w - H
    refine B5 rfl Dc rfl rfl rfl (by exact Ia _) H at0 rfl ?_
    rintro w H
    refine Ab (Aa (Af (BD (α:=Unit) 4290772992 (fun _=>[(31,.bool (!F3 x))]) (fun _ w'=>Ctx w1 [] w' [(b6,Bl 64 (CB x))]) rfl ?_ ?_)))
    ·refine Ah rfl EJ rfl (AN rfl Bt rfl H at0 rfl (Am rfl Lf (Ln x.ba _) rfl ?_))
     rintro v w ⟨rfl,rfl⟩
     refine B1 rfl rfl (Aw rfl rfl (AE 26 rfl ?_ ?_))
     ·intro h1
      replace h1:=Bv h1
      refine Ag rfl (Ag rfl (Ag rfl (Ag rfl (AA rfl rfl (.bool _) rfl (Ab ?_)))))
      exact ⟨rfl,(),rfl,⟨congrArg Value.bool (by unfold F3; rw [Bool.eq_iff_iff]; simp_all; try omega),trivial⟩,H⟩
     ·intro h2
      replace h2:=Bw h2
      refine Ah rfl Iz rfl (AN rfl Bt rfl H at0 rfl (Am rfl Lf (Ln x.re _) rfl ?_))
      rintro v w ⟨rfl,rfl⟩
      refine B1 rfl rfl (A6 rfl rfl (.bool _) rfl (Ab ?_))
      exact ⟨rfl,(),rfl,⟨congrArg Value.bool (by unfold F3; rw [Bool.eq_iff_iff]; simp_all; try omega),trivial⟩,H⟩
    rintro - j31 w H
    refine Aq _ rfl ?_ ?_
    ·intro h3
     replace h3:=Bv h3
     refine Af (AW rfl rfl (Ae rfl rfl (Ab (Aa (A8 (A1 (Al (Al (A1 (Al (Cq (v1:=(.pointer _)) (v2:=(.int _ _)) rfl rfl rfl rfl ?_)))))))))))
     have h3':DB acs=1:=by unfold DB; rw [if_neg h1',if_pos (C9 hx (by simpa using h3))]
     exact ⟨_,by rw [h3'],fun _=>rfl,(fun h=>by omega),(hx13.trans H1.ext).trans H.ext⟩
    ·intro h3
     replace h3:=Bw h3
     refine Ao (A5 (Aa (Av (Ap rfl rfl rfl (by omega) (by omega) ?_))))
     refine Ad rfl rfl (Ab (Aa ?_))
     refine ⟨i+1,rfl,⟨rfl,trivial⟩,⟨by omega,H1.call H.ext,(fun k y hk hy=>?_)⟩,by omega⟩
     rcases Nat.lt_or_ge k i with h7 | h7
     ·exact hall k y h7 hy
     ·obtain rfl:k=i:=by omega
      rw [hx] at hy
      cases hy
      simpa using h3
   ·intro h2
    replace h2:=AG h2
    obtain rfl:i=acs.length:=by omega
    have hal:acs.all F3=true:=CV fun k x hk hx=>hall k x hk hx
    have hb3':∀ x∈ent a3 64 full3,w1.heap[x.1]? = some x.2∧w0.heap.size≤x.1∧x.1≠b15:=fun x hx=>by
     have h9:=hb3 x hx
     have h8:=Bp h9.1
     have h7:=(H1.own (b15,_) (List.mem_of_getElem? (i:=0) rfl)).elim (fun h=>by cases h) id
     dsimp only at h7
     exact ⟨H1.ext.to h9.1 (by simp),h9.2,by omega⟩
    have R3:Rd w1 a3 2 CB acs:=OS.rd O3 (fun x hx=>(hb3' x hx).1) (fun _ _=>rfl) (by omega)
    obtain ⟨tt,htt⟩:∃ tt,tt=Fg (acs.map Ac.ba):=⟨_,rfl⟩
    have hC:DB acs=tt.2:=by unfold DB; rw [if_neg h1',if_neg (by rw [hal]; decide),htt]
    rw [hC]
    refine Bc (Ak (Ak (AD (Aa (An (Af (A2 rfl rfl (Am rfl V3 (LI a3 acs.length c3 acs _ hd1 R3 rfl (by omega)) rfl ?_))))))))
    rintro v w F4
    obtain ⟨a4,n4,c4,f4,rfl,O4,hb4⟩:=F4.ex
    replace H:=H.call F4.ext
    have hl4:=O4.llen
    rw [List.length_map,List.length_map] at hl4
    refine Am rfl Pn (Me a4 n4 c4 (acs.map Ac.ba) _ (O4.rd1 fun x hx=>(hb4 x hx).1) (by rw [List.length_map]; omega) (by omega)) rfl ?_
    rintro v w ⟨rfl,rfl⟩
    rw [← htt]
    refine B9 rfl rfl (A3 rfl rfl rfl (A3 rfl rfl rfl (Ae rfl rfl (Ae rfl rfl (Ab (Aa (Af (Ad rfl rfl (Cp rfl rfl rfl (Ab (Aa ?_)))))))))))
    refine Aq _ rfl ?_ ?_
    ·intro h5
     replace h5:=CY h5
     refine Af (Ad rfl rfl (AW rfl rfl (Ae rfl rfl (Ab (Aa (A8 (Al (Cq (v1:=(.pointer _)) (v2:=(.int _ _)) rfl rfl rfl rfl ?_))))))))
     exact ⟨_,rfl,fun _=>rfl,(fun h=>absurd h h5),(hx13.trans H1.ext).trans H.ext⟩
    ·intro h5
     replace h5:=CZ h5
     refine Ao (Aa (Af (A2 rfl rfl (AW rfl rfl (Ae rfl rfl (Ab (Aa (A8 (Cq (v1:=(.pointer _)) (v2:=(.int _ _)) rfl rfl rfl rfl ?_)))))))))
     have h5':tt.2=0:=by omega
     refine ⟨_,by rw [h5'],(fun h=>absurd h5' h),(fun _=>⟨b15,a3,c3,full3,rfl,H.ext.to hd1 (by simp),O3,fun x hx=>⟨H.ext.to (hb3' x hx).1 (by simp),(hb3' x hx).2⟩,?_⟩),(hx13.trans H1.ext).trans H.ext⟩
     exact Nat.le_trans hx13.size ((H1.own (b15,_) (List.mem_of_getElem? (i:=0) rfl)).elim (fun h=>by cases h) id)
end Go.Proofs.YtapphbmlkdhnmaaGreat

/- The accounts: Shift. -/
namespace Go.Proofs.YtapphbmlkdhnmaaGreat
open Go.GV
attribute [local irreducible] AL W Wq Wt

def a00:Ac:=⟨0,0⟩
/-- The accounts, of which the first have new balances. -/
def acZ (acs:List Ac) (z:Nat→Int) (k i:Nat):Ac:=if i<k then ⟨z i,(acs.getD i a00).re⟩ else acs.getD i a00
def N7 (acs:List Ac) (z:Nat→Int) (k:Nat):List Ac:=(List.range acs.length).map (acZ acs z k)
theorem QJ (acs:List Ac) (z:Nat→Int) (k:Nat):(N7 acs z k).length=acs.length:=by unfold N7; simp
theorem KH {acs:List Ac} {z:Nat→Int} {k i:Nat} (h:i<acs.length):(N7 acs z k)[i]? = some (acZ acs z k i):=D3 h
theorem Lp (acs:List Ac) (z:Nat→Int):N7 acs z 0=acs:=by
 refine List.ext_getElem? fun i=>?_
 rcases Nat.lt_or_ge i acs.length with h | h
 ·obtain ⟨e,he⟩:=A0 h
  rw [KH h,he]
  unfold acZ
  rw [if_neg (by omega),Bn he]
 ·rw [List.getElem?_eq_none (by rw [QJ]; exact h),List.getElem?_eq_none h]
theorem QK {acs:List Ac} {z:Nat→Int} {i:Nat}:(N7 acs z i).set i (acZ acs z (i+1) i)=N7 acs z (i+1):=by
 unfold N7
 refine HI rfl fun j hj hn=>?_
 unfold acZ
 by_cases h:j<i
 ·rw [if_pos h,if_pos (by omega)]
 ·rw [if_neg h,if_neg (by omega)]
def shA (acs:List Ac) (ys:List Int):List Ac:=if CA (acs.map Ac.ba) ys=0 then List.zipWith (fun a y=>⟨a.ba+y,a.re⟩) acs ys else acs
/-- What comes back of money's Shift. -/
def shZ (acs:List Ac) (ys:List Int):List Int:=if CA (acs.map Ac.ba) ys=0 then Ct (acs.map Ac.ba) ys else []
theorem S5 {xs ys:List Int} (h:CA xs ys=0):xs.length=ys.length:=by
 unfold CA at h
 split at h
 ·omega
 ·rename_i h1
  have h2:(decide (xs.length=ys.length) && (xs.all Di && F2 ys))=true:=by simpa using h1
  simp only [Bool.and_eq_true,decide_eq_true_eq] at h2
  exact h2.1
theorem WP (acs:List Ac) (ys:List Int):(shZ acs ys).length≤acs.length:=by
 unfold shZ
 split
 ·unfold Ct; rw [List.length_zipWith,List.length_map]; omega
 ·simp
theorem WQ (acs:List Ac) (ys:List Int):N7 acs (fun i=>(shZ acs ys).getD i 0) (shZ acs ys).length=shA acs ys:=by
 unfold shA shZ
 by_cases h:CA (acs.map Ac.ba) ys=0
 ·rw [if_pos h,if_pos h]
  have hl:=S5 h
  rw [List.length_map] at hl
  have hsl:(Ct (acs.map Ac.ba) ys).length=acs.length:=by unfold Ct; rw [List.length_zipWith,List.length_map]; omega
  refine List.ext_getElem? fun i=>?_
  rcases Nat.lt_or_ge i acs.length with h7 | h7
  ·obtain ⟨e,he⟩:=A0 h7
   obtain ⟨y,hy⟩:=A0 (l:=ys) (i:=i) (by omega)
   rw [KH h7,List.getElem?_zipWith,he,hy]
   unfold acZ
   dsimp only
   rw [if_pos (by omega),Bn he,Bn (Ha (xs:=acs.map Ac.ba) (x:=e.ba) (by rw [List.getElem?_map,he]; rfl) hy)]
  ·rw [List.getElem?_eq_none (by rw [QJ]; exact h7),List.getElem?_eq_none (by rw [List.length_zipWith]; omega)]
 ·rw [if_neg h,if_neg h]
  exact Lp _ _
theorem WR {acs:List Ac} {ys zs:List Int} {v':Value} {w0 w1 w:World} (hz:zs=shZ acs ys) (hx:Ext [] w0 w1) (h1:CA (acs.map Ac.ba) ys≠0→v' = .slice none 0 0) (h2:CA (acs.map Ac.ba) ys=0→Fresh w1 w 2 1 v' ((Ct (acs.map Ac.ba) ys).map FJ)) :
  ∃ a4 n4 c4,v' = .slice a4 n4 c4∧zs.length=n4∧Rd w a4 1 I1 zs∧(zs≠[]→w0.heap.size≤(adr a4).block):=by
 subst hz
 unfold shZ
 by_cases h:CA (acs.map Ac.ba) ys=0
 ·rw [if_pos h]
  obtain ⟨a,n,c,full,rfl,O,hb⟩:=(h2 h).ex
  have hl:=O.llen
  rw [List.length_map] at hl
  refine ⟨a,n,c,rfl,by omega,O.rd1 fun x hx=>(hb x hx).1,fun hne=>?_⟩
  have hpos:0<n:=by
   have:=List.length_pos_iff.2 hne; omega
  obtain ⟨q,rfl⟩:=O.form hpos
  exact Nat.le_trans hx.size (hb (q,Bl 2 full) (List.mem_singleton.2 rfl)).2
 ·rw [if_neg h]
  exact ⟨none,0,0,h1 h,rfl,Rd.nil,fun h=>absurd rfl h⟩
structure HSt where
 i:Nat
 full:List Value
set_option maxRecDepth 20000 in
set_option maxHeartbeats 4000000 in
theorem UJ {bd:Nat} (a b:Option Addr) (c m d:Nat) (full:List Value) (acs:List Ac) (ys:List Int) (w:World) (hd:w.heap[bd]? = some (Bl 116 [.slice a acs.length c])) (O:OS a acs.length c 2 full (acs.flatMap CB))
  (hb:∀ x∈ent a 64 full,w.heap[x.1]? = some x.2∧x.1≠bd) (hn:acs.length≤1000000) (Ry:Rd w b 1 I1 ys) (hm:ys.length=m) (hm2:m≤1000000) :
  Ret Tryz.prog 71 #[ptr bd,.slice b m d] w fun v w'=>v = .int .i64 (CA (acs.map Ac.ba) ys)∧∃ full',OS a acs.length c 2 full' ((shA acs ys).flatMap CB)∧(∀ x∈ent a 64 full',w'.heap[x.1]? = some x.2)∧Ext ((ent a 64 full).map (·.1)) w w':=by
 obtain ⟨w0,rfl⟩:∃ w0,w0=w:=⟨_,rfl⟩
 have R:Rd w0 a 2 CB acs:=OS.rd O (fun x hx=>(hb x hx).1) (fun _ _=>rfl) (by omega)
 obtain ⟨code,hcode⟩:∃ code,code=CA (acs.map Ac.ba) ys:=⟨_,rfl⟩
 obtain ⟨zs,hzs⟩:∃ zs,zs=shZ acs ys:=⟨_,rfl⟩
 have hzl:zs.length≤acs.length:=by rw [hzs]; exact WP acs ys
 rw [← WQ,← hzs,← hcode]
 refine A9 (fn:=Tryz.f71) Tryz.func71 rfl [.pointer (some ⟨bd,0,none⟩),.slice b m d] rfl (by kernel_rfl) ?_
 refine Af (Ae rfl rfl (Ab (Aa (An (Af (A2 rfl rfl (CK rfl MO rfl ?_)))))))
 refine Ab (Aa (Aq _ rfl ?_ ?_))
 ·intro h0
  cases h0
 ·intro h0
  refine Ao (Aa (Af (A2 rfl rfl (Am rfl V3 (LI a acs.length c acs _ hd R rfl hn) rfl ?_))))
  rintro v w F
  obtain ⟨a3,n3,c3,f3,rfl,O3,hb3⟩:=F.ex
  have hl3:=O3.llen
  rw [List.length_map,List.length_map] at hl3
  refine Aj rfl rfl (Am rfl ZS (UE a3 b n3 c3 m d (acs.map Ac.ba) ys _ (O3.rd1 fun x hx=>(hb3 x hx).1) (by rw [List.length_map]; omega) (by omega) (Ry.ext0 F.ext) hm hm2) rfl ?_)
  rintro v w ⟨v',rfl,hv1,hv2,hx15⟩
  rw [← hcode]
  obtain ⟨a4,n4,c4,rfl,hn4,R4,hbz⟩:∃ a4 n4 c4,v' = .slice a4 n4 c4∧zs.length=n4∧Rd w a4 1 I1 zs∧(zs≠[]→w0.heap.size≤(adr a4).block):=WR hzs F.ext hv1 hv2
  refine B9 rfl rfl (A3 rfl rfl rfl (A3 rfl rfl rfl (Az rfl rfl (Ae rfl rfl (Ab (Aa (An (Af (Aj rfl rfl (AV rfl AO rfl ?_))))))))))
  refine Ad rfl rfl (Ab (Aa (Au ?_)))
  subst hn4
  obtain ⟨w1,rfl⟩:∃ z,z=w:=⟨_,rfl⟩
  have hx1:=F.ext.trans hx15
  have hb1:∀ x∈ent a 64 full,w1.heap[x.1]? = some x.2:=fun x hx=>hx1.to (hb x hx).1 (by simp)
  obtain ⟨ids,hids⟩:∃ ids,ids=(ent a 64 full).map (·.1):=⟨_,rfl⟩
  have hidl:∀ y∈ids,y<w0.heap.size∧y≠bd:=fun y hy=>by
   rw [hids] at hy
   obtain ⟨x,hx,rfl⟩:=List.mem_map.1 hy
   exact ⟨Bp (hb x hx).1,(hb x hx).2⟩
  have H:Ctx w1 ids w1 (ent a 64 full):=⟨Ext.refl _ _,hb1,Ir,fun x hx => .inl (by rw [hids]; exact List.mem_map_of_mem (f:=(·.1)) hx)⟩
  have hd1:=hx1.to hd (by simp)
  rw [← hids]
  refine Bf 17178820992 (α:=HSt) (fun t=>[(20,.int .i64 (t.i:Int))]) (fun t w'=>t.i≤zs.length∧OS a acs.length c 2 t.full ((N7 acs (fun i=>zs.getD i 0) t.i).flatMap CB)∧Ctx w1 ids w' (ent a 64 t.full)) (fun t=>zs.length - t.i) ⟨0,full⟩ rfl ?_ ?_ ?_
  ·exact ⟨rfl,trivial⟩
  ·exact ⟨Nat.zero_le _,by dsimp only; rw [Lp]; exact O,H⟩
  ·rintro ⟨i,fu⟩ j w ⟨hi,O,H⟩; dsimp only at hi O H; dsimp only
   refine Af (AZ rfl rfl rfl (Ab (Aa (An (Aq _ rfl ?_ ?_)))))
   ·intro h1
    replace h1:=AF h1
    obtain ⟨z,hz⟩:=A0 (l:=zs) (i:=i) (by omega)
    have hzne:zs≠[]:=fun h=>by rw [h] at hz; cases hz
    have hz0:zs.getD i 0=z:=Bn hz
    obtain ⟨q,rfl⟩:=O.form (by omega)
    have hil:i<acs.length:=by omega
    obtain ⟨ac,hac⟩:=A0 hil
    have hOl:=O.len
    have hqn:=O.le
    have hzb:(adr a4).block∉ids:=fun h=>by have:=hidl _ h; have:=hbz hzne; omega
    refine Ao (Aa (An (Au (Af (Ad rfl rfl (AK R4 rfl AO Bu rfl rfl (by omega) (by omega) (by rfl) ?_))))))
    refine Bb rfl Bt rfl (((R4.ext H.ext hzb).fld hz rfl (j:=0) rfl)) ?_
    refine Ae rfl rfl (Ae rfl rfl (Ab (Aa (Av (A2 rfl rfl (AJ rfl rfl (Ah rfl Jh rfl (Bb rfl GK rfl ((H.old (Ay hd1 _) (fun h=>(hidl _ h).2 rfl))) ?_))))))))
    refine Ad rfl rfl (Ad rfl rfl (Bg rfl CL Dc rfl rfl (by omega) (by omega) ?_))
    refine Ah rfl EJ rfl (Cy (.int _ _) rfl Bu rfl rfl rfl H at0 (by omega) ?_)
    rintro w H
    refine Ab (A5 (Aa (Av (Ap rfl rfl rfl (by omega) (by omega) ?_))))
    refine Ad rfl rfl (Ab (Aa ?_))
    rw [show 0+((i:Int)).toNat*2+0=i*2+0 by omega] at H
    have O1:=OS.setf O (y:=acZ acs (fun i=>zs.getD i 0) (i+1) i) (j:=0) (v := .int .i64 z) (fun _=>rfl) (KH hil) (by decide) (by unfold acZ CB; dsimp only; rw [if_pos (by omega),if_neg (by omega),hz0]; rfl)
    rw [QK] at O1
    exact ⟨⟨i+1,_⟩,rfl,⟨rfl,trivial⟩,⟨by dsimp only; omega,O1,H⟩,by dsimp only; omega⟩
   ·intro h1
    replace h1:=AG h1
    refine Bc (Ak (Ak (AD (Aa (Af (Ad rfl rfl (Ae rfl rfl (Ab (Aa (A8 (AB (v:=(.int _ _)) rfl rfl rfl ?_)))))))))))
    obtain rfl:i=zs.length:=by omega
    exact ⟨rfl,fu,O,fun x hx=>H.blk x hx,(hx1.mono (by simp)).trans H.ext⟩
end Go.Proofs.YtapphbmlkdhnmaaGreat

/- Money, as the reference has it. -/
namespace Go.Proofs.YtapphbmlkdhnmaaGreat
open Go.GV
attribute [local irreducible] AL W Wq Wt

theorem G9 (x:Int) (w:World):Ret Tryz.prog 75 #[.int .i64 x] w fun v w'=>v = .bool (Di x)∧w=w':=by
 obtain ⟨w0,rfl⟩:∃ w0,w0=w:=⟨_,rfl⟩
 refine A9 (fn:=Tryz.f75) Tryz.func75 rfl [.int .i64 x] rfl (by kernel_rfl) ?_
 refine Af (Ai rfl rfl (Ab (Aa (Af (Ad rfl rfl (Cx rfl rfl rfl (Aw rfl rfl (AE 5 rfl ?_ ?_))))))))
 ·intro h1
  replace h1:=AF h1
  refine Ad rfl rfl (JY rfl rfl rfl (AA rfl rfl (.bool _) rfl (Ai rfl rfl (Ab (Aa (A8 (AB (v:=(.bool _)) rfl rfl rfl ?_)))))))
  exact ⟨congrArg Value.bool (by unfold Di; rw [Bool.eq_iff_iff]; simp_all; try omega),rfl⟩
 ·intro h2
  replace h2:=AG h2
  refine Ag rfl (Ag rfl (A6 rfl rfl (.bool _) rfl (Ai rfl rfl (Ab (Aa (A8 (AB (v:=(.bool _)) rfl rfl rfl ?_)))))))
  exact ⟨congrArg Value.bool (by unfold Di; rw [Bool.eq_iff_iff]; simp_all; try omega),rfl⟩
theorem Hb {xs:List Int} {f:Int→Bool} {i:Nat} {x:Int} (hx:xs[i]? = some x) (h:∀ (k:Nat) (y:Int),k<i→xs[k]? = some y→f y=true) (hf:f x=true):∀ (k:Nat) (y:Int),k<i+1→xs[k]? = some y→f y=true:=fun k y hk hy=>by
 rcases Nat.lt_or_ge k i with h7 | h7
 ·exact h k y h7 hy
 ·obtain rfl:k=i:=by omega
  rw [hx] at hy
  cases hy
  exact hf
theorem Nh {xs:List Int} (i:Nat) (h:∀ x∈xs,0≤x):0≤CO (xs.take i)∧CO (xs.take i)≤CO xs:=by
 have h6:CO xs=CO (xs.take i)+CO (xs.drop i):=by rw [← Gm,List.take_append_drop]
 have h7:=F1 (xs:=xs.drop i) fun y hy=>h y (List.mem_of_mem_drop hy)
 have h8:=F1 (xs:=xs.take i) fun y hy=>h y (List.mem_of_mem_take hy)
 exact ⟨h8,by omega⟩
set_option maxRecDepth 20000 in
set_option maxHeartbeats 2000000 in
theorem Lq (a:Option Addr) (n c:Nat) (xs:List Int) (w:World) (R:Rd w a 1 I1 xs) (hn:xs.length=n) (hn2:n≤1000000) :
  Ret Tryz.prog 77 #[.slice a n c] w fun v w'=>v = .tuple #[.int .i64 (Fg xs).1,.int .i64 (Fg xs).2]∧w=w':=by
 subst hn
 obtain ⟨w0,rfl⟩:∃ w0,w0=w:=⟨_,rfl⟩
 refine A9 (fn:=Tryz.f77) Tryz.func77 rfl [.slice a xs.length c] rfl (by kernel_rfl) ?_
 refine Af (Ae rfl rfl (Ae rfl rfl (Ab (Aa (An (Af (Ae rfl rfl (Ab (Aa (Au (Bf 524188 (α:=Nat) (fun i=>[(4,.int .i64 (i:Int))]) (fun i w'=>i≤xs.length∧w0=w'∧∀ (k:Nat) (x:Int),k<i→xs[k]? = some x→Di x=true) (fun i=>xs.length - i) 0 rfl ?_ ?_ ?_)))))))))))
 ·exact ⟨rfl,trivial⟩
 ·exact ⟨Nat.zero_le _,rfl,fun k x h=>absurd h (Nat.not_lt_zero _)⟩
 ·rintro i j w ⟨hi,rfl,hb⟩
  refine An (Af (Ad rfl rfl (Aj rfl rfl (AV rfl AO rfl (AZ rfl rfl rfl (Ab (Aa (Aq _ rfl ?_ ?_))))))))
  ·intro h1
   replace h1:=AF h1
   obtain ⟨x,hx⟩:=A0 (l:=xs) (i:=i) (by omega)
   refine Ao (Aa (An (Au (Af (Aj rfl rfl (Ad rfl rfl (AK R rfl AO Bu rfl rfl (by omega) (by omega) (by rfl) ?_)))))))
   refine Bb rfl Bt rfl ((R.fld hx rfl (j:=0) rfl)) ?_
   refine Am rfl NZ (G9 x _) rfl ?_
   rintro v w ⟨rfl,rfl⟩
   refine B1 rfl rfl (Ab (Aa (Aq _ rfl ?_ ?_)))
   ·intro h2
    replace h2:=Bv h2
    refine Af (Ae rfl rfl (Ae rfl rfl (Ab (Aa (A8 (A1 (Al (Al (A1 (Al (Cq (v1:=(.int _ _)) (v2:=(.int _ _)) rfl rfl rfl rfl ?_)))))))))))
    exact ⟨by unfold Fg; rw [if_pos (C9 hx (by simpa using h2))],rfl⟩
   ·intro h2
    replace h2:=Bw h2
    refine Ao (A5 (Aa (Av (Ad rfl rfl (Ap rfl rfl rfl (by omega) (by omega) ?_)))))
    refine Ae rfl rfl (Ab (Aa ?_))
    exact ⟨i+1,rfl,⟨rfl,trivial⟩,⟨by omega,rfl,Hb hx hb (by simpa using h2)⟩,by omega⟩
  ·intro h1
   replace h1:=AG h1
   obtain rfl:i=xs.length:=by omega
   have hal:xs.all Di=true:=CV fun k x hk hx=>hb k x hk hx
   have hpos:∀ x∈xs,0≤x:=fun x hx=>(Da.1 (List.all_eq_true.1 hal x hx)).1
   refine Bc (Ak (Ak (AD (Aa (Af (Ae rfl rfl (Ab (Aa (An (Af (Ae rfl rfl (Ab (Aa (Au (Bf 8589410412 (α:=Nat) (fun i=>[(5,.int .i64 (CO (xs.take i))),(6,.int .i64 (i:Int))]) (fun i w'=>i≤xs.length∧w0=w'∧CO (xs.take i)≤4503599627370496) (fun i=>xs.length - i) 0 rfl ?_ ?_ ?_)))))))))))))))
   ·exact ⟨rfl,rfl,trivial⟩
   ·exact ⟨Nat.zero_le _,rfl,by show (0:Int)≤_; omega⟩
   ·rintro i j2 w ⟨hi,rfl,hs⟩
    have hs0:=Nh (xs:=xs) i hpos
    refine An (Af (Ad rfl rfl (Aj rfl rfl (AV rfl AO rfl (AZ rfl rfl rfl (Ab (Aa (Aq _ rfl ?_ ?_))))))))
    ·intro h2
     replace h2:=AF h2
     obtain ⟨x,hx⟩:=A0 (l:=xs) (i:=i) (by omega)
     have hx1:=Da.1 (List.all_eq_true.1 hal x (List.mem_of_getElem? hx))
     have hst:=JB hx
     have hs1:=Nh (xs:=xs) (i+1) hpos
     refine Ao (Aa (An (Au (Af (Ad rfl rfl (Aj rfl rfl (Ad rfl rfl (AK R rfl AO Bu rfl rfl (by omega) (by omega) (by rfl) ?_))))))))
     refine Bb rfl Bt rfl ((R.fld hx rfl (j:=0) rfl)) ?_
     refine Ap rfl rfl rfl (by omega) (by omega) ?_
     rw [← hst]
     refine Ae rfl rfl (Ab (Aa (Af (Ad rfl rfl (Ck rfl rfl rfl (Ab (Aa (Aq _ rfl ?_ ?_))))))))
     ·intro h3
      replace h3:=AF h3
      refine Af (Ae rfl rfl (Ae rfl rfl (Ab (Aa (A8 (A1 (Al (Al (A1 (Al (Cq (v1:=(.int _ _)) (v2:=(.int _ _)) rfl rfl rfl rfl ?_)))))))))))
      exact ⟨by unfold Fg; rw [if_neg (by rw [hal]; decide),if_neg (by omega)],rfl⟩
     ·intro h3
      replace h3:=AG h3
      refine Ao (A5 (Aa (Av (Ad rfl rfl (Ap rfl rfl rfl (by omega) (by omega) ?_)))))
      refine Ae rfl rfl (Ab (Aa ?_))
      exact ⟨i+1,rfl,⟨rfl,rfl,trivial⟩,⟨by omega,rfl,by omega⟩,by omega⟩
    ·intro h2
     replace h2:=AG h2
     refine Bc (Ak (Ak (AD (Aa (Af (Ad rfl rfl (Ae rfl rfl (Ae rfl rfl (Ab (Aa (A8 (Cq (v1:=(.int _ _)) (v2:=(.int _ _)) rfl rfl rfl rfl ?_))))))))))))
     obtain rfl:i=xs.length:=by omega
     rw [List.take_length] at hs ⊢
     exact ⟨by unfold Fg; rw [if_neg (by rw [hal]; decide),if_pos hs],rfl⟩
set_option maxRecDepth 20000 in
set_option maxHeartbeats 2000000 in
theorem WS (a:Option Addr) (n c:Nat) (xs:List Int) (w:World) (R:Rd w a 1 I1 xs) (hn:xs.length=n) (hn2:n≤1000) (hsm:∀ x∈xs,-4503599627370496≤x∧x≤4503599627370496) :
  Ret Tryz.prog 182 #[.slice a n c] w fun v w'=>v = .bool (decide (CO xs=0))∧w=w':=by
 subst hn
 obtain ⟨w0,rfl⟩:∃ w0,w0=w:=⟨_,rfl⟩
 refine A9 (fn:=Tryz.f182) Tryz.func182 rfl [.slice a xs.length c] rfl (by kernel_rfl) ?_
 refine Af (Ai rfl rfl (Ab (Aa (Af (Ae rfl rfl (Ab (Aa (Af (Ae rfl rfl (Ab (Aa (An ?_))))))))))))
 refine Af (Ae rfl rfl (Ab (Aa (Au (Bf 4294967288 (α:=Nat × Int × Int) (fun t=>[(3,.int .u64 t.2.1),(4,.int .u64 t.2.2),(5,.int .i64 (t.1:Int))]) (fun t w'=>t.1≤xs.length∧w0=w'∧t.2.1 - t.2.2=CO (xs.take t.1)∧0≤t.2.1∧t.2.1≤t.1*4503599627370496∧0≤t.2.2∧t.2.2≤t.1*4503599627370496) (fun t=>xs.length - t.1) (0,0,0) rfl ?_ ?_ ?_)))))
 ·exact ⟨rfl,rfl,rfl,trivial⟩
 ·exact ⟨Nat.zero_le _,rfl,rfl,by dsimp only; omega,by dsimp only; omega,by dsimp only; omega,by dsimp only; omega⟩
 ·rintro ⟨i,p,q⟩ j w ⟨hi,rfl,hs,hp0,hp1,hq0,hq1⟩; dsimp only at hi hs hp0 hp1 hq0 hq1; dsimp only
  refine An (Af (Ad rfl rfl (Aj rfl rfl (AV rfl AO rfl (AZ rfl rfl rfl (Ab (Aa (Aq _ rfl ?_ ?_))))))))
  ·intro h1
   replace h1:=AF h1
   obtain ⟨x,hx⟩:=A0 (l:=xs) (i:=i) (by omega)
   have hx1:=hsm x (List.mem_of_getElem? hx)
   have hst:=JB hx
   refine Ao (Aa (An (Au (Af (Aj rfl rfl (Ad rfl rfl (AK R rfl AO Bu rfl rfl (by omega) (by omega) (by rfl) ?_)))))))
   refine Bb rfl Bt rfl ((R.fld hx rfl (j:=0) rfl)) ?_
   refine Ck rfl rfl rfl (Ab (Aa (Aq _ rfl ?_ ?_)))
   ·intro h2
    replace h2:=AF h2
    refine Av (Ad rfl rfl (Aj rfl rfl (Ad rfl rfl (AK R rfl AO Bu rfl rfl (by omega) (by omega) (by rfl) ?_))))
    refine Bb rfl Bt rfl ((R.fld hx rfl (j:=0) rfl)) ?_
    refine DI rfl rfl VZ Gx (by omega) (by omega) ?_
    refine Ey rfl rfl rfl (by omega) (by omega) ?_
    refine Ae rfl rfl (Ab (A5 (Aa (Av (Ad rfl rfl (Ap rfl rfl rfl (by omega) (by omega) ?_))))))
    refine Ae rfl rfl (Ab (Aa ?_))
    exact ⟨(i+1,p+x,q),rfl,⟨rfl,rfl,rfl,trivial⟩,⟨by dsimp only; omega,rfl,by dsimp only; omega,by dsimp only; omega,by dsimp only; omega,by dsimp only; omega,by dsimp only; omega⟩,by dsimp only; omega⟩
   ·intro h2
    replace h2:=AG h2
    refine Av (Ad rfl rfl (Aj rfl rfl (Ad rfl rfl (AK R rfl AO Bu rfl rfl (by omega) (by omega) (by rfl) ?_))))
    refine Bb rfl Bt rfl ((R.fld hx rfl (j:=0) rfl)) ?_
    refine GF rfl rfl (by omega) (by omega) ?_
    refine DI rfl rfl VZ Gx (by omega) (by omega) ?_
    refine Ey rfl rfl rfl (by omega) (by omega) ?_
    refine Ae rfl rfl (Ab (A5 (Aa (Av (Ad rfl rfl (Ap rfl rfl rfl (by omega) (by omega) ?_))))))
    refine Ae rfl rfl (Ab (Aa ?_))
    exact ⟨(i+1,p,q + -x),rfl,⟨rfl,rfl,rfl,trivial⟩,⟨by dsimp only; omega,rfl,by dsimp only; omega,by dsimp only; omega,by dsimp only; omega,by dsimp only; omega,by dsimp only; omega⟩,by dsimp only; omega⟩
  ·intro h1
   replace h1:=AG h1
   refine Bc (Ak (Ak (AD (Aa (Af (Ad rfl rfl (Ad rfl rfl (Cu rfl rfl rfl (Ai rfl rfl (Ab (Aa (A8 (AB (v:=(.bool _)) rfl rfl rfl ?_)))))))))))))
   obtain rfl:i=xs.length:=by omega
   rw [List.take_length] at hs
   exact ⟨congrArg Value.bool (by rw [Bool.eq_iff_iff,decide_eq_true_eq,decide_eq_true_eq]; omega),rfl⟩
end Go.Proofs.YtapphbmlkdhnmaaGreat

/- Shifts, as the reference has them. -/
namespace Go.Proofs.YtapphbmlkdhnmaaGreat
open Go.GV
attribute [local irreducible] AL W Wq Wt

theorem Kh {xs ys:List Int} (h:¬ (xs.length=ys.length∧xs.all Di=true∧F2 ys=true)):CA xs ys=1:=by
 unfold CA
 rw [if_pos]
 rw [Bool.eq_false_iff]
 intro h2
 simp only [Bool.and_eq_true,decide_eq_true_eq] at h2
 exact h h2
theorem S6 {xs ys:List Int} (h:xs.length=ys.length∧xs.all Di=true∧F2 ys=true):CA xs ys=if (Ct xs ys).all (fun x=>decide (0≤x))=false then 12 else if (Ct xs ys).all Di=false then 13 else 0:=by
 unfold CA
 rw [if_neg]
 rw [h.2.1,h.2.2,decide_eq_true h.1]; decide
theorem TN {xs:List Int} {f:Int→Bool} {i:Nat} {x:Int} (hx:xs[i]? = some x) (h:f x=false):¬ xs.all f=true:=by rw [C9 hx h]; decide
def inM (x y:Int):Bool:=Di x && E4 y
set_option maxRecDepth 20000 in
set_option maxHeartbeats 4000000 in
theorem QL (a b:Option Addr) (n c m d:Nat) (xs ys:List Int) (w:World) (R:Rd w a 1 I1 xs) (hn:xs.length=n) (hn2:n≤1000) (Ry:Rd w b 1 I1 ys) (hm:ys.length=m) (hm2:m≤1000) :
  Ret Tryz.prog 143 #[.slice a n c,.slice b m d] w fun v w'=>∃ v',v = .tuple #[v',.int .i64 (CA xs ys)]∧(CA xs ys≠0→v' = .slice none 0 0)∧(CA xs ys=0→Fresh w w' 2 1 v' ((Ct xs ys).map FJ))∧Ext [] w w':=by
 subst hn hm
 obtain ⟨w0,rfl⟩:∃ w0,w0=w:=⟨_,rfl⟩
 refine A9 (fn:=Tryz.f143) Tryz.func143 rfl [.slice a xs.length c,.slice b ys.length d] rfl (by kernel_rfl) ?_
 refine Af (Az rfl rfl (Ae rfl rfl (Ab (Aa (An (Af (Aj rfl rfl (AV rfl AO rfl (Aj rfl rfl (AV rfl AO rfl ?_))))))))))
 refine Cp rfl rfl rfl (Ab (Aa (Aq _ rfl ?_ ?_)))
 ·intro h1
  replace h1:=CY h1
  refine Af (Az rfl rfl (Ae rfl rfl (Ab (Aa (A8 (Al (Cq (v1:=(.slice _ _ _)) (v2:=(.int _ _)) rfl rfl rfl rfl ?_)))))))
  have h4:CA xs ys=1:=Kh fun h=>by omega
  exact ⟨_,by rw [h4],fun _=>rfl,(fun h=>by omega),Ext.refl _ _⟩
 ·intro h1
  replace h1:=CZ h1
  have hle:xs.length=ys.length:=by omega
  refine Ao (Aa (An (Af (Ae rfl rfl (Ab (Aa (Au (Bf 2199023222896 (α:=Nat) (fun i=>[(6,.int .i64 (i:Int))]) (fun i w'=>i≤xs.length∧w0=w'∧(∀ (k:Nat) (x:Int),k<i→xs[k]? = some x→Di x=true)∧∀ (k:Nat) (y:Int),k<i→ys[k]? = some y→E4 y=true) (fun i=>xs.length - i) 0 rfl ?_ ?_ ?_))))))))
  ·exact ⟨rfl,trivial⟩
  ·exact ⟨Nat.zero_le _,rfl,(fun k x h=>absurd h (Nat.not_lt_zero _)),fun k x h=>absurd h (Nat.not_lt_zero _)⟩
  ·rintro i j w ⟨hi,rfl,hb,hby⟩
   refine An (Af (Ad rfl rfl (Aj rfl rfl (AV rfl AO rfl (AZ rfl rfl rfl (Ab (Aa (Aq _ rfl ?_ ?_))))))))
   ·intro h2
    replace h2:=AF h2
    obtain ⟨x,hx⟩:=A0 (l:=xs) (i:=i) (by omega)
    obtain ⟨y,hy⟩:=A0 (l:=ys) (i:=i) (by omega)
    refine Ao (Aa (An (Au (Af (BD (α:=Unit) 2199021158400 (fun _=>[(40,.bool (!inM x y))]) (fun _ w'=>w'=w0) rfl ?_ ?_)))))
    ·refine Aj rfl rfl (Ad rfl rfl (AK R rfl AO Bu rfl rfl (by omega) (by omega) (by rfl) ?_))
     refine Bb rfl Bt rfl ((R.fld hx rfl (j:=0) rfl)) ?_
     refine Am rfl NZ (G9 x _) rfl ?_
     rintro v w ⟨rfl,rfl⟩
     refine B1 rfl rfl (Aw rfl rfl (AE 27 rfl ?_ ?_))
     ·intro h1
      replace h1:=Bv h1
      refine Ag rfl (Ag rfl (Ag rfl (Ag rfl (Ag rfl (AA rfl rfl (.bool _) rfl (Aw rfl rfl (Ag rfl (Ag rfl (Ag rfl ?_)))))))))
      refine Ag rfl (Ag rfl (AA rfl rfl (.bool _) rfl (Ab ?_)))
      exact ⟨rfl,(),rfl,⟨congrArg Value.bool (by unfold inM E4; rw [Bool.eq_iff_iff]; simp_all; try omega),trivial⟩,rfl⟩
     ·intro h2
      replace h2:=Bw h2
      refine Aj rfl rfl (Ad rfl rfl (AK Ry rfl AO Bu rfl rfl (by omega) (by omega) (by rfl) ?_))
      refine Bb rfl Bt rfl ((Ry.fld hy rfl (j:=0) rfl)) ?_
      refine Ck rfl rfl rfl (A6 rfl rfl (.bool _) rfl (Aw rfl rfl (AE 34 rfl ?_ ?_)))
      ·intro h3
       replace h3:=AF h3
       refine Ag rfl (Ag rfl (Ag rfl (Ag rfl (Ag rfl (AA rfl rfl (.bool _) rfl (Ab ?_))))))
       exact ⟨rfl,(),rfl,⟨congrArg Value.bool (by unfold inM E4; rw [Bool.eq_iff_iff]; simp_all; try omega),trivial⟩,rfl⟩
      ·intro h4
       replace h4:=AG h4
       refine Aj rfl rfl (Ad rfl rfl (AK Ry rfl AO Bu rfl rfl (by omega) (by omega) (by rfl) ?_))
       refine Bb rfl Bt rfl ((Ry.fld hy rfl (j:=0) rfl)) ?_
       refine AZ rfl rfl rfl (A6 rfl rfl (.bool _) rfl (Ab ?_))
       exact ⟨rfl,(),rfl,⟨congrArg Value.bool (by unfold inM E4; rw [Bool.eq_iff_iff]; simp_all; try omega),trivial⟩,rfl⟩
    rintro - j40 w hw
    subst w
    refine Aq _ rfl ?_ ?_
    ·intro h3
     replace h3:=Bv h3
     refine Af (Az rfl rfl (Ae rfl rfl (Ab (Aa (A8 (A1 (Al (Al (A1 (Al (Cq (v1:=(.slice _ _ _)) (v2:=(.int _ _)) rfl rfl rfl rfl ?_)))))))))))
     have h4:CA xs ys=1:=Kh fun h=>by
      have h5:inM x y=false:=by simpa using h3
      unfold inM at h5
      unfold F2 at h
      simp only [Bool.and_eq_true] at h
      rcases Bool.and_eq_false_iff.1 h5 with h5 | h5
      ·exact TN hx h5 h.2.1
      ·exact TN hy h5 h.2.2.1
     exact ⟨_,by rw [h4],fun _=>rfl,(fun h=>by omega),Ext.refl _ _⟩
    ·intro h3
     replace h3:=Bw h3
     refine Ao (A5 (Aa (Av (Ad rfl rfl (Ap rfl rfl rfl (by omega) (by omega) ?_)))))
     refine Ae rfl rfl (Ab (Aa ?_))
     have h5:inM x y=true:=by simpa using h3
     unfold inM at h5
     rw [Bool.and_eq_true] at h5
     exact ⟨i+1,rfl,⟨rfl,trivial⟩,⟨by omega,rfl,Hb hx hb h5.1,Hb hy hby h5.2⟩,by omega⟩
   ·intro h2
    replace h2:=AG h2
    obtain rfl:i=xs.length:=by omega
    have hax:xs.all Di=true:=CV fun k x hk hx=>hb k x hk hx
    have hay:ys.all E4=true:=CV fun k x hk hx=>hby k x (by omega) hx
    have hsm:∀ y∈ys,-4503599627370496≤y∧y≤4503599627370496:=fun y hy=>by
     have:=List.all_eq_true.1 hay y hy
     unfold E4 at this
     simpa using this
    have hmy:∀ x∈xs,0≤x∧x≤4503599627370496:=fun x hx=>Da.1 (List.all_eq_true.1 hax x hx)
    have hev:F2 ys=decide (CO ys=0):=by unfold F2; rw [hay,Bool.true_and]
    refine Bc (Ak (Ak (AD (Aa (An (Af (Aj rfl rfl (Am rfl Aal (WS b ys.length d ys _ Ry rfl hm2 hsm) rfl ?_))))))))
    rintro v w ⟨rfl,rfl⟩
    rw [← hev]
    refine B1 rfl rfl (Ab (Aa (Aq _ rfl ?_ ?_)))
    ·intro h3
     replace h3:=Bv h3
     refine Af (Az rfl rfl (Ae rfl rfl (Ab (Aa (A8 (Al (Cq (v1:=(.slice _ _ _)) (v2:=(.int _ _)) rfl rfl rfl rfl ?_)))))))
     have h4:CA xs ys=1:=Kh fun h=>by rw [h.2.2] at h3; cases h3
     exact ⟨_,by rw [h4],fun _=>rfl,(fun h=>by omega),Ext.refl _ _⟩
    ·intro h3
     replace h3:=Bw h3
     have hC:=S6 ⟨hle,hax,(show F2 ys=true by simpa using h3)⟩
     have hlen:(Ct xs ys).length=xs.length:=by unfold Ct; rw [List.length_zipWith]; omega
     refine Ao (Aa (Af (Az rfl rfl (Ab (Aa (An (Af (Ae rfl rfl (Ab (Aa (Au ?_)))))))))))
     have H:=Ctx.start w0 []
     refine Bf 1152903912420802864 (α:=Nat) (fun i=>[(8,.int .i64 (i:Int))]) (fun i w'=>i≤xs.length∧Ctx w0 [] w' []∧∀ (k:Nat) (x:Int),k<i→(Ct xs ys)[k]? = some x→decide (0≤x)=true) (fun i=>xs.length - i) 0 rfl ?_ ?_ ?_
     ·exact ⟨rfl,trivial⟩
     ·exact ⟨Nat.zero_le _,H,fun k x h=>absurd h (Nat.not_lt_zero _)⟩
     ·clear H
      rintro i j2 w ⟨hi,H,hb2⟩
      refine An (Af (Ad rfl rfl (Aj rfl rfl (AV rfl AO rfl (AZ rfl rfl rfl (Ab (Aa (Aq _ rfl ?_ ?_))))))))
      ·intro h5
       replace h5:=AF h5
       obtain ⟨x,hx⟩:=A0 (l:=xs) (i:=i) (by omega)
       obtain ⟨y,hy⟩:=A0 (l:=ys) (i:=i) (by omega)
       have hx1:=hmy x (List.mem_of_getElem? hx)
       have hy1:=hsm y (List.mem_of_getElem? hy)
       have hat:=Ha hx hy
       refine Ao (Aa (An (Au (DE (fun x=>x=_) B0 (by kernel_rfl) rfl ?_))))
       refine Bx rfl rfl (AP rfl rfl (Bs R rfl AO Bu rfl rfl (by omega) (by omega) (by rfl) ?_))
       refine BR rfl Bt rfl (by rintro _ rfl; exact (((R.ext0 H.drew.ext).fld hx rfl (j:=0) rfl))) ?_
       refine Bx rfl rfl (AP rfl rfl (Bs Ry rfl AO Bu rfl rfl (by omega) (by omega) (by rfl) ?_))
       refine BR rfl Bt rfl (by rintro _ rfl; exact (((Ry.ext0 H.drew.ext).fld hy rfl (j:=0) rfl))) ?_
       refine C7 rfl rfl rfl (by omega) (by omega) ?_
       refine IH rfl rfl rfl (BJ ?_)
       rintro _ rfl
       replace H:=H.drew
       refine Aq _ rfl ?_ ?_
       ·intro h6
        replace h6:=AF h6
        refine Af (Az rfl rfl (Ae rfl rfl (Ab (Aa (A8 (A1 (Al (Al (A1 (Al (Cq (v1:=(.slice _ _ _)) (v2:=(.int _ _)) rfl rfl rfl rfl ?_)))))))))))
        have h4:CA xs ys=12:=by rw [hC,if_pos (C9 hat (decide_eq_false (by omega)))]
        exact ⟨_,by rw [h4],fun _=>rfl,(fun h=>by omega),H.ext⟩
       ·intro h6
        replace h6:=AG h6
        refine Ao (A5 (Aa (Av (Ad rfl rfl (Ap rfl rfl rfl (by omega) (by omega) ?_)))))
        refine Ae rfl rfl (Ab (Aa ?_))
        exact ⟨i+1,rfl,⟨rfl,trivial⟩,⟨by omega,H,Hb hat hb2 (decide_eq_true (by omega))⟩,by omega⟩
      ·intro h5
       replace h5:=AG h5
       obtain rfl:i=xs.length:=by omega
       have hp0:¬ (Ct xs ys).all (fun x=>decide (0≤x))=false:=by
        rw [CV fun k x hk hx=>hb2 k x (by omega) hx]; decide
       rw [if_neg hp0] at hC
       refine Bc (Ak (Ak (AD (Aa (An (Af (Ae rfl rfl (Ab (Aa (Au (Bf 309485008668423564117934768 (α:=LSt) (fun t=>[(7,.slice t.a t.i t.c),(9,.int .i64 (t.i:Int))]) (fun t w'=>t.i≤xs.length∧OS t.a t.i t.c 1 t.full (((Ct xs ys).take t.i).map FJ)∧Ctx w0 [] w' (ent t.a 2 t.full)∧∀ (k:Nat) (x:Int),k<t.i→(Ct xs ys)[k]? = some x→Di x=true) (fun t=>xs.length - t.i) ⟨0,none,0,[]⟩ rfl ?_ ?_ ?_)))))))))))
       ·exact ⟨rfl,rfl,trivial⟩
       ·exact ⟨Nat.zero_le _,OS.nil,H,fun k x h=>absurd h (Nat.not_lt_zero _)⟩
       ·clear H
        rintro ⟨i,a2,c2,full⟩ j3 w ⟨hi,O,H,hb3⟩; dsimp only at hi O H hb3; dsimp only
        refine An (Af (Ad rfl rfl (Aj rfl rfl (AV rfl AO rfl (AZ rfl rfl rfl (Ab (Aa (Aq _ rfl ?_ ?_))))))))
        ·intro h6
         replace h6:=AF h6
         obtain ⟨x,hx⟩:=A0 (l:=xs) (i:=i) (by omega)
         obtain ⟨y,hy⟩:=A0 (l:=ys) (i:=i) (by omega)
         have hx1:=hmy x (List.mem_of_getElem? hx)
         have hy1:=hsm y (List.mem_of_getElem? hy)
         have hat:=Ha hx hy
         have htk:=Nd hx hy
         have hxy:0≤x+y:=of_decide_eq_true (hb2 i _ (by omega) hat)
         refine Ao (Aa (An (Au (An (DE (fun x=>x=_) B0 (by kernel_rfl) rfl ?_)))))
         refine Bx rfl rfl (AP rfl rfl (Bs R rfl AO Bu rfl rfl (by omega) (by omega) (by rfl) ?_))
         refine BR rfl Bt rfl (by rintro _ rfl; exact (((R.ext0 H.drew.ext).fld hx rfl (j:=0) rfl))) ?_
         refine Bx rfl rfl (AP rfl rfl (Bs Ry rfl AO Bu rfl rfl (by omega) (by omega) (by rfl) ?_))
         refine BR rfl Bt rfl (by rintro _ rfl; exact (((Ry.ext0 H.drew.ext).fld hy rfl (j:=0) rfl))) ?_
         refine C7 rfl rfl rfl (by omega) (by omega) ?_
         refine PY rfl rfl rfl (BJ ?_)
         rintro _ rfl
         replace H:=H.drew
         refine Aq _ rfl ?_ ?_
         ·intro h7
          replace h7:=AF h7
          refine Af (Az rfl rfl (Ae rfl rfl (Ab (Aa (A8 (Al (A1 (Al (Al (A1 (Al (Cq (v1:=(.slice _ _ _)) (v2:=(.int _ _)) rfl rfl rfl rfl ?_))))))))))))
          have h4:CA xs ys=13:=by
           rw [hC,if_pos (C9 hat (by unfold Di; simp only [Bool.and_eq_false_iff,decide_eq_false_iff_not]; omega))]
          exact ⟨_,by rw [h4],fun _=>rfl,(fun h=>by omega),H.ext⟩
         ·intro h7
          replace h7:=AG h7
          have hgx:=hx
          refine Ao (Aa (Fq [([0,1,2,3,4,5,6,7,8,9],10),([],11),([],12)] (fun z=>Ext [] w0 z) [] B0 (by kernel_rfl) (H.drew.ext) ?_))
          refine AU rfl rfl ?_
          refine Bi rfl rfl (Bi rfl rfl (AS rfl rfl (BT R rfl AO Bu rfl rfl (by omega) (by omega) (by rfl) ?_)))
          refine BP rfl Bt rfl (fun _ hx=>((R.ext0 hx).fld hgx rfl (j:=0) rfl)) ?_
          refine Bi rfl rfl (AS rfl rfl (BT Ry rfl AO Bu rfl rfl (by omega) (by omega) (by rfl) ?_))
          refine BP rfl Bt rfl (fun _ hx=>((Ry.ext0 hx).fld hy rfl (j:=0) rfl)) ?_
          refine Ep rfl rfl rfl (by omega) (by omega) ?_
          refine Ba ?_
          replace H:=H.drew
          refine C3 _ (.int _ _) rfl AO Bu Fa rfl (by decide) (by decide) rfl rfl rfl H ?_
          rintro b86 w - H
          refine Ab (BL (H.ext) (AU rfl rfl ?_))
          refine Ba (Cl (L:=[]) rfl AO AO Bu HN Fa rfl (by decide) rfl rfl H O rfl (by simp [Bm]) (by omega) ?_)
          rintro a' c' full' w H O
          refine Ab (BL (H.ext) (AU rfl rfl ?_))
          refine Ba (Az rfl rfl (Ab (BL (H.ext) (BO (A5 (Aa (Av (Ad rfl rfl (Ap rfl rfl rfl (by omega) (by omega) ?_)))))))))
          refine Ae rfl rfl (Ab (Aa ?_))
          have hO:((Ct xs ys).take (i+1)).map FJ=((Ct xs ys).take i).map FJ++[.int .i64 (x+y)]:=by rw [htk,List.map_append]; rfl
          exact ⟨⟨i+1,a',c',full'⟩,rfl,⟨rfl,rfl,trivial⟩,⟨by dsimp only; omega,by dsimp only; rw [hO]; exact O,H,Hb hat hb3 (Da.2 ⟨hxy,by omega⟩)⟩,by dsimp only; omega⟩
        ·intro h6
         replace h6:=AG h6
         refine Bc (Ak (Ak (AD (Aa (Af (Aj rfl rfl (Az rfl rfl (Ae rfl rfl (Ab (Aa (A8 (Cq (v1:=(.slice _ _ _)) (v2:=(.int _ _)) rfl rfl rfl rfl ?_))))))))))))
         obtain rfl:i=xs.length:=by omega
         have h4:CA xs ys=0:=by
          rw [hC,if_neg (by rw [CV fun k x hk hx=>hb3 k x (by omega) hx]; decide)]
         rw [show (Ct xs ys).take xs.length=Ct xs ys by rw [← hlen,List.take_length]] at O
         exact ⟨_,by rw [h4],(fun h=>absurd h4 h),(fun _=>Ctx.fresh (L:=[]) H O),H.ext⟩
end Go.Proofs.YtapphbmlkdhnmaaGreat

/- The accounts, as the reference has them. -/
namespace Go.Proofs.YtapphbmlkdhnmaaGreat
open Go.GV
attribute [local irreducible] AL W Wq Wt

set_option maxRecDepth 20000 in
set_option maxHeartbeats 2000000 in
theorem Oz (a:Option Addr) (n c:Nat) (acs:List Ac) (w:World) (R:Rd w a 2 CB acs) (hn:acs.length=n) (hm:n≤1000000) :
  Ret Tryz.prog 114 #[.slice a n c] w fun v w'=>Fresh w w' 2 1 v ((acs.map Ac.ba).map FJ):=by
 subst hn
 obtain ⟨w0,rfl⟩:∃ w0,w0=w:=⟨_,rfl⟩
 have H:=Ctx.start w0 []
 refine A9 (fn:=Tryz.f114) Tryz.func114 rfl [.slice a acs.length c] rfl (by kernel_rfl) ?_
 refine Af (Az rfl rfl (Ab (Aa (Af (Az rfl rfl (Ab (Aa (An (Af (Ae rfl rfl (Ab (Aa ?_))))))))))))
 refine Au (Bf 524280 (α:=LSt) (fun t=>[(3,.slice t.a t.i t.c),(4,.int .i64 (t.i:Int))]) (fun t w'=>t.i≤acs.length∧OS t.a t.i t.c 1 t.full (((acs.take t.i).map Ac.ba).map FJ)∧Ctx w0 [] w' (ent t.a 2 t.full)) (fun t=>acs.length - t.i) ⟨0,none,0,[]⟩ rfl ?_ ?_ ?_)
 ·exact ⟨rfl,rfl,trivial⟩
 ·exact ⟨Nat.zero_le _,OS.nil,H⟩
 ·rintro ⟨i,a2,c2,full⟩ j w ⟨hi,O,H⟩; dsimp only at hi O H; dsimp only
  refine An (Af (Ad rfl rfl (Aj rfl rfl (AV rfl CL rfl (AZ rfl rfl rfl (Ab (Aa (Aq _ rfl ?_ ?_))))))))
  ·intro h1
   replace h1:=AF h1
   obtain ⟨x,hx⟩:=A0 (l:=acs) (i:=i) (by omega)
   refine Ao (Aa (An (Au (Av (Aj rfl rfl (Aj rfl rfl (Ad rfl rfl (AK R rfl CL Dc rfl rfl (by omega) (by omega) (by rfl) ?_))))))))
   refine Ah rfl EJ rfl (Bb rfl Bt rfl (((R.ext0 H.ext).fld hx rfl (j:=0) rfl)) ?_)
   refine C3 _ (.int _ _) rfl AO Bu Fa rfl (by decide) (by decide) rfl rfl rfl H ?_
   rintro b17 w - H
   refine Cl (L:=[]) rfl AO AO Bu HN Fa rfl (by decide) rfl rfl H O rfl (by simp [Bm]) (by omega) ?_
   rintro a' c' full' w H O
   refine Az rfl rfl (Ab (A5 (Aa (Av (Ad rfl rfl (Ap rfl rfl rfl (by omega) (by omega) ?_))))))
   refine Ae rfl rfl (Ab (Aa ?_))
   exact ⟨⟨i+1,a',c',full'⟩,rfl,⟨rfl,rfl,trivial⟩,⟨by dsimp only; omega,by dsimp only; rw [Fk hx,List.map_append]; exact O,H⟩,by dsimp only; omega⟩
  ·intro h1
   replace h1:=AG h1
   refine Bc (Ak (Ak (AD (Aa (Af (Aj rfl rfl (Az rfl rfl (Ab (Aa (A8 (AB (v:=(.slice _ _ _)) rfl rfl rfl ?_)))))))))))
   obtain rfl:i=acs.length:=by omega
   rw [List.take_length] at O
   exact Ctx.fresh (L:=[]) H O
set_option maxRecDepth 20000 in
set_option maxHeartbeats 2000000 in
theorem QM {bd:Nat} (a:Option Addr) (n c:Nat) (acs:List Ac) (w:World) (hd:w.heap[bd]? = some (Bl 52 [.slice a n c])) (R:Rd w a 2 CB acs) (hn:acs.length=n) (hm:n≤1000000) (hmay:∀ x∈acs,F3 x=true) :
  Ret Tryz.prog 14 #[ptr bd] w fun v w'=>Fresh w w' 2 1 v ((acs.map Ce).map FJ):=by
 subst hn
 obtain ⟨w0,rfl⟩:∃ w0,w0=w:=⟨_,rfl⟩
 have H:=Ctx.start w0 []
 refine A9 (fn:=Tryz.f14) Tryz.func14 rfl [.pointer (some ⟨bd,0,none⟩)] rfl (by kernel_rfl) ?_
 refine Af (Az rfl rfl (Ab (Aa (Af (Az rfl rfl (Ab (Aa (An (Af (Ae rfl rfl (Ab (Aa ?_))))))))))))
 refine Au (Bf 34359738360 (α:=LSt) (fun t=>[(3,.slice t.a t.i t.c),(4,.int .i64 (t.i:Int))]) (fun t w'=>t.i≤acs.length∧OS t.a t.i t.c 1 t.full (((acs.take t.i).map Ce).map FJ)∧Ctx w0 [] w' (ent t.a 2 t.full)) (fun t=>acs.length - t.i) ⟨0,none,0,[]⟩ rfl ?_ ?_ ?_)
 ·exact ⟨rfl,rfl,trivial⟩
 ·exact ⟨Nat.zero_le _,OS.nil,H⟩
 ·clear H
  rintro ⟨i,a2,c2,full⟩ j w ⟨hi,O,H⟩; dsimp only at hi O H; dsimp only
  refine An (Af (Ad rfl rfl (A2 rfl rfl (AJ rfl rfl (Ah rfl FG rfl (Bb rfl GK rfl ((H.old0 (by rw [Ay hd]; rfl))) ?_))))))
  refine AV rfl CL rfl (AZ rfl rfl rfl (Ab (Aa (Aq _ rfl ?_ ?_))))
  ·intro h1
   replace h1:=AF h1
   obtain ⟨x,hgx⟩:=A0 (l:=acs) (i:=i) (by omega)
   have hxm:=hmay x (List.mem_of_getElem? hgx)
   have hx2:(0≤x.ba∧x.ba≤4503599627370496)∧0≤x.re∧x.re≤4503599627370496:=by
    unfold F3 at hxm
    rw [Bool.and_eq_true,Da,Da] at hxm
    exact hxm
   have hrv:Ce x=max (x.ba - x.re) 0:=Int.max_comm ..
   refine Ao (Aa (An (Au (Fq [([0,1,2,3,4,5,6,7,8,9,10,11,12,13,14,15,16,17,18],19),([],20),([],21)] (fun z=>Ext [] w0 z) [] B0 (by kernel_rfl) (H.drew.ext) ?_))))
   refine AU rfl rfl ?_
   refine Bi rfl rfl (Ch rfl rfl (B3 rfl rfl (AH rfl FG rfl (BP rfl GK rfl (fun _ hx=>(by rw [Ay (hx.to hd (by simp))]; rfl)) ?_))))
   refine AS rfl rfl (BT R rfl CL Dc rfl rfl (by omega) (by omega) (by rfl) ?_)
   refine AH rfl EJ rfl (BP rfl Bt rfl (fun _ hx=>((R.ext0 hx).fld hgx rfl (j:=0) rfl)) ?_)
   refine Ch rfl rfl (B3 rfl rfl (AH rfl FG rfl (BP rfl GK rfl (fun _ hx=>(by rw [Ay (hx.to hd (by simp))]; rfl)) ?_)))
   refine AS rfl rfl (BT R rfl CL Dc rfl rfl (by omega) (by omega) (by rfl) ?_)
   refine AH rfl Iz rfl (BP rfl Bt rfl (fun _ hx=>((R.ext0 hx).fld hgx rfl (j:=1) rfl)) ?_)
   refine Er rfl rfl rfl (by omega) (by omega) ?_
   refine Zv rfl rfl rfl ?_
   refine Ba ?_
   replace H:=H.drew
   refine C3 _ (.int _ _) rfl AO Bu Fa rfl (by decide) (by decide) rfl rfl rfl H ?_
   rintro b33 w - H
   refine Ab (BL (H.ext) (AU rfl rfl ?_))
   refine Ba (Cl (L:=[]) rfl AO AO Bu HN Fa rfl (by decide) rfl rfl H O rfl (by simp [Bm]) (by omega) ?_)
   rintro a' c' full' w H O
   refine Ab (BL (H.ext) (AU rfl rfl ?_))
   refine Ba (Az rfl rfl (Ab (BL (H.ext) (BO (A5 (Aa (Av (Ad rfl rfl (Ap rfl rfl rfl (by omega) (by omega) ?_)))))))))
   refine Ae rfl rfl (Ab (Aa ?_))
   exact ⟨⟨i+1,a',c',full'⟩,rfl,⟨rfl,rfl,trivial⟩,⟨by dsimp only; omega,by dsimp only; rw [Fk hgx,List.map_append,hrv]; exact O,H⟩,by dsimp only; omega⟩
  ·intro h1
   replace h1:=AG h1
   refine Bc (Ak (Ak (AD (Aa (Af (Aj rfl rfl (Az rfl rfl (Ab (Aa (A8 (AB (v:=(.slice _ _ _)) rfl rfl rfl ?_)))))))))))
   obtain rfl:i=acs.length:=by omega
   rw [List.take_length] at O
   exact Ctx.fresh (L:=[]) H O
set_option maxRecDepth 20000 in
set_option maxHeartbeats 4000000 in
theorem QN {bd:Nat} (a b:Option Addr) (c m d:Nat) (full:List Value) (acs:List Ac) (ys:List Int) (w:World) (hd:w.heap[bd]? = some (Bl 52 [.slice a acs.length c])) (O:OS a acs.length c 2 full (acs.flatMap CB))
  (hb:∀ x∈ent a 64 full,w.heap[x.1]? = some x.2∧x.1≠bd) (hn:acs.length≤1000) (Ry:Rd w b 1 I1 ys) (hm:ys.length=m) (hm2:m≤1000) :
  Ret Tryz.prog 74 #[ptr bd,.slice b m d] w fun v w'=>v = .int .i64 (CA (acs.map Ac.ba) ys)∧∃ full',OS a acs.length c 2 full' ((shA acs ys).flatMap CB)∧(∀ x∈ent a 64 full',w'.heap[x.1]? = some x.2)∧Ext ((ent a 64 full).map (·.1)) w w':=by
 obtain ⟨w0,rfl⟩:∃ w0,w0=w:=⟨_,rfl⟩
 have R:Rd w0 a 2 CB acs:=OS.rd O (fun x hx=>(hb x hx).1) (fun _ _=>rfl) (by omega)
 obtain ⟨code,hcode⟩:∃ code,code=CA (acs.map Ac.ba) ys:=⟨_,rfl⟩
 obtain ⟨zs,hzs⟩:∃ zs,zs=shZ acs ys:=⟨_,rfl⟩
 have hzl:zs.length≤acs.length:=by rw [hzs]; exact WP acs ys
 rw [← WQ,← hzs,← hcode]
 refine A9 (fn:=Tryz.f74) Tryz.func74 rfl [.pointer (some ⟨bd,0,none⟩),.slice b m d] rfl (by kernel_rfl) ?_
 refine Af (Ae rfl rfl (Ab (Aa (Af (A2 rfl rfl (AJ rfl rfl (Ah rfl FG rfl (Bb rfl GK rfl ((by rw [Ay hd]; rfl)) ?_))))))))
 refine Am rfl V6 (Oz a acs.length c acs _ R rfl (by omega)) rfl ?_
 rintro v w F
 obtain ⟨a3,n3,c3,f3,rfl,O3,hb3⟩:=F.ex
 have hl3:=O3.llen
 rw [List.length_map,List.length_map] at hl3
 refine Aj rfl rfl (Am rfl ZV (QL a3 b n3 c3 m d (acs.map Ac.ba) ys _ (O3.rd1 fun x hx=>(hb3 x hx).1) (by rw [List.length_map]; omega) (by omega) (Ry.ext0 F.ext) hm hm2) rfl ?_)
 rintro v w ⟨v',rfl,hv1,hv2,hx15⟩
 rw [← hcode]
 obtain ⟨a4,n4,c4,rfl,hn4,R4,hbz⟩:∃ a4 n4 c4,v' = .slice a4 n4 c4∧zs.length=n4∧Rd w a4 1 I1 zs∧(zs≠[]→w0.heap.size≤(adr a4).block):=WR hzs F.ext hv1 hv2
 refine B9 rfl rfl (A3 rfl rfl rfl (A3 rfl rfl rfl (Az rfl rfl (Ae rfl rfl (Ab (Aa (An (Af (Ae rfl rfl (Ab (Aa ?_)))))))))))
 refine Au ?_
 subst hn4
 obtain ⟨w1,rfl⟩:∃ z,z=w:=⟨_,rfl⟩
 have hx1:=F.ext.trans hx15
 have hb1:∀ x∈ent a 64 full,w1.heap[x.1]? = some x.2:=fun x hx=>hx1.to (hb x hx).1 (by simp)
 obtain ⟨ids,hids⟩:∃ ids,ids=(ent a 64 full).map (·.1):=⟨_,rfl⟩
 have hidl:∀ y∈ids,y<w0.heap.size∧y≠bd:=fun y hy=>by
  rw [hids] at hy
  obtain ⟨x,hx,rfl⟩:=List.mem_map.1 hy
  exact ⟨Bp (hb x hx).1,(hb x hx).2⟩
 have H:Ctx w1 ids w1 (ent a 64 full):=⟨Ext.refl _ _,hb1,Ir,fun x hx => .inl (by rw [hids]; exact List.mem_map_of_mem (f:=(·.1)) hx)⟩
 have hd1:=hx1.to hd (by simp)
 rw [← hids]
 refine Bf 34359476352 (α:=HSt) (fun t=>[(7,.int .i64 (t.i:Int))]) (fun t w'=>t.i≤zs.length∧OS a acs.length c 2 t.full ((N7 acs (fun i=>zs.getD i 0) t.i).flatMap CB)∧Ctx w1 ids w' (ent a 64 t.full)) (fun t=>zs.length - t.i) ⟨0,full⟩ rfl ?_ ?_ ?_
 ·exact ⟨rfl,trivial⟩
 ·exact ⟨Nat.zero_le _,by dsimp only; rw [Lp]; exact O,H⟩
 ·clear H
  rintro ⟨i,fu⟩ j w ⟨hi,O,H⟩; dsimp only at hi O H; dsimp only
  refine An (Af (Ad rfl rfl (Aj rfl rfl (AV rfl AO rfl (AZ rfl rfl rfl (Ab (Aa (Aq _ rfl ?_ ?_))))))))
  ·intro h1
   replace h1:=AF h1
   obtain ⟨z,hz⟩:=A0 (l:=zs) (i:=i) (by omega)
   have hzne:zs≠[]:=fun h=>by rw [h] at hz; cases hz
   have hz0:zs.getD i 0=z:=Bn hz
   obtain ⟨q,rfl⟩:=O.form (by omega)
   have hil:i<acs.length:=by omega
   obtain ⟨ac,hac⟩:=A0 hil
   have hOl:=O.len
   have hqn:=O.le
   have hzb:(adr a4).block∉ids:=fun h=>by have:=hidl _ h; have:=hbz hzne; omega
   refine Ao (Aa (An (Au (EM 11 B0 (by kernel_rfl) rfl rfl ?_))))
   refine BS rfl rfl (Bh rfl rfl (A7 rfl FG rfl (BR rfl GK rfl (by rintro _ rfl; exact ((H.drew.old (Ay hd1 _) (fun h=>(hidl _ h).2 rfl)))) ?_)))
   refine AP rfl rfl (Bx rfl rfl (AP rfl rfl (Bs R4 rfl AO Bu rfl rfl (by omega) (by omega) (by rfl) ?_)))
   refine BR rfl Bt rfl (by rintro _ rfl; exact (((R4.ext H.drew.ext hzb).fld hz rfl (j:=0) rfl))) ?_
   refine AY rfl CL Dc rfl rfl (by omega) (by omega) ?_
   refine A7 rfl EJ rfl (BJ ?_)
   replace H:=H.drew
   refine Cy (.int _ _) rfl Bu rfl rfl rfl H at0 (by omega) ?_
   rintro w H
   refine Ab (A5 (Aa (Av (Ad rfl rfl (Ap rfl rfl rfl (by omega) (by omega) ?_)))))
   refine Ae rfl rfl (Ab (Aa ?_))
   rw [show 0+((i:Int)).toNat*2+0=i*2+0 by omega] at H
   have O1:=OS.setf O (y:=acZ acs (fun i=>zs.getD i 0) (i+1) i) (j:=0) (v := .int .i64 z) (fun _=>rfl) (KH hil) (by decide) (by unfold acZ CB; dsimp only; rw [if_pos (by omega),if_neg (by omega),hz0]; rfl)
   rw [QK] at O1
   exact ⟨⟨i+1,_⟩,rfl,⟨rfl,trivial⟩,⟨by dsimp only; omega,O1,H⟩,by dsimp only; omega⟩
  ·intro h1
   replace h1:=AG h1
   refine Bc (Ak (Ak (AD (Aa (Af (Ad rfl rfl (Ae rfl rfl (Ab (Aa (A8 (AB (v:=(.int _ _)) rfl rfl rfl ?_)))))))))))
   obtain rfl:i=zs.length:=by omega
   exact ⟨rfl,fu,O,fun x hx=>H.blk x hx,(hx1.mono (by simp)).trans H.ext⟩
end Go.Proofs.YtapphbmlkdhnmaaGreat

/- The accounts of the reference: Of; the laws' comparisons. -/
namespace Go.Proofs.YtapphbmlkdhnmaaGreat
open Go.GV
attribute [local irreducible] AL W Wq Wt

theorem WT (x y:Ac):decide (x=y)=true↔CB x=CB y:=by
 obtain ⟨a,b⟩:=x
 obtain ⟨c,d⟩:=y
 simp [CB]
theorem QO (x y:Du):decide (x=y)=true↔Cf x=Cf y:=by
 obtain ⟨a,b,c,d,e,f,g⟩:=x
 obtain ⟨a',b',c',d',e',f',g'⟩:=y
 simp [Cf]
theorem JC {α:Type} {xs ys:List α} (hl:xs.length=ys.length) (h:∀ (k:Nat) (x y:α),k<xs.length→xs[k]? = some x→ys[k]? = some y→x=y):xs=ys:=by
 refine List.ext_getElem? fun i=>?_
 rcases Nat.lt_or_ge i xs.length with h7 | h7
 ·obtain ⟨x,hx⟩:=A0 (l:=xs) (i:=i) h7
  obtain ⟨y,hy⟩:=A0 (l:=ys) (i:=i) (by omega)
  rw [hx,hy,h i x y h7 hx hy]
 ·rw [List.getElem?_eq_none (by omega),List.getElem?_eq_none (by omega)]
set_option maxRecDepth 20000 in
theorem Lr (a b:Option Addr) (n c m d:Nat) (xs ys:List Ac) (w:World) (R:Rd w a 2 CB xs) (hn:xs.length=n) (hn2:n≤1000000) (Ry:Rd w b 2 CB ys) (hm:ys.length=m) (hm2:m≤1000000) :
  Ret Tryz.prog 15 #[.slice a n c,.slice b m d] w fun v w'=>v = .bool (decide (xs=ys))∧Ext [] w w':=by
 subst hn hm
 obtain ⟨w0,rfl⟩:∃ w0,w0=w:=⟨_,rfl⟩
 have H:=Ctx.start w0 []
 refine A9 (fn:=Tryz.f15) Tryz.func15 rfl [.slice a xs.length c,.slice b ys.length d] rfl (by kernel_rfl) ?_
 refine Af (Ai rfl rfl (Ab (Aa (An (Af (Aj rfl rfl (AV rfl CL rfl (Aj rfl rfl (AV rfl CL rfl (Cp rfl rfl rfl ?_))))))))))
 refine Ab (Aa (Aq _ rfl ?_ ?_))
 ·intro h1
  replace h1:=CY h1
  refine Af (Ai rfl rfl (Ab (Aa (A8 (Al (AB (v:=(.bool _)) rfl rfl rfl ?_))))))
  exact ⟨congrArg Value.bool (decide_eq_false fun h=>by rw [h] at h1; simp at h1).symm,H.ext⟩
 ·intro h1
  replace h1:=CZ h1
  have hle:xs.length=ys.length:=by omega
  refine Ao (Aa (An (Af (Ae rfl rfl (Ab (Aa (Au (Bf 67106864 (α:=Nat) (fun i=>[(5,.int .i64 (i:Int))]) (fun i w'=>i≤xs.length∧Ctx w0 [] w' []∧∀ (k:Nat) (x y:Ac),k<i→xs[k]? = some x→ys[k]? = some y→x=y) (fun i=>xs.length - i) 0 rfl ?_ ?_ ?_))))))))
  ·exact ⟨rfl,trivial⟩
  ·exact ⟨Nat.zero_le _,H,fun k x y h=>absurd h (Nat.not_lt_zero _)⟩
  ·clear H
   rintro i j w ⟨hi,H,hb⟩
   refine An (Af (Ad rfl rfl (Aj rfl rfl (AV rfl CL rfl (AZ rfl rfl rfl (Ab (Aa (Aq _ rfl ?_ ?_))))))))
   ·intro h2
    replace h2:=AF h2
    obtain ⟨x,hx⟩:=A0 (l:=xs) (i:=i) (by omega)
    obtain ⟨y,hy⟩:=A0 (l:=ys) (i:=i) (by omega)
    refine Ao (Aa (An (Au (DE (fun x=>x=_) B0 (by kernel_rfl) rfl ?_))))
    refine Bx rfl rfl (AP rfl rfl (Bs R rfl CL Dc rfl rfl (by omega) (by omega) (by rfl) ?_))
    refine FM _ rfl JP Dc rfl rfl (by rintro _ rfl; exact ((R.ext0 H.drew.ext).row hx rfl)) ?_
    refine Bx rfl rfl (AP rfl rfl (Bs Ry rfl CL Dc rfl rfl (by omega) (by omega) (by rfl) ?_))
    refine FM _ rfl JP Dc rfl rfl (by rintro _ rfl; exact ((Ry.ext0 H.drew.ext).row hy rfl)) ?_
    refine Qq (ks:=[true,true]) (xs:=CB x) (ys:=CB y) (decide (x=y)) rfl (by kernel_rfl) rfl rfl ⟨rfl,rfl,trivial⟩ (WT x y) ?_
    refine BJ ?_
    rintro _ rfl
    replace H:=H.drew
    refine Aq _ rfl ?_ ?_
    ·intro h3
     refine Af (Ai rfl rfl (Ab (Aa (A8 (A1 (Al (Al (A1 (Al (AB (v:=(.bool _)) rfl rfl rfl ?_))))))))))
     have hne:¬ x=y:=by simpa using h3
     exact ⟨congrArg Value.bool (decide_eq_false fun h=>by subst h; rw [hx] at hy; injection hy with hy; exact hne hy).symm,H.ext⟩
    ·intro h3
     refine Ao (A5 (Aa (Av (Ad rfl rfl (Ap rfl rfl rfl (by omega) (by omega) ?_)))))
     refine Ae rfl rfl (Ab (Aa ?_))
     have heq:x=y:=by simpa using h3
     refine ⟨i+1,rfl,⟨rfl,trivial⟩,⟨by omega,H,fun k x' y' hk hx' hy'=>?_⟩,by omega⟩
     rcases Nat.lt_or_ge k i with h7 | h7
     ·exact hb k x' y' h7 hx' hy'
     ·obtain rfl:k=i:=by omega
      rw [hx] at hx'; rw [hy] at hy'
      cases hx'; cases hy'
      exact heq
   ·intro h2
    replace h2:=AG h2
    refine Bc (Ak (Ak (AD (Aa (Af (Ai rfl rfl (Ab (Aa (A8 (AB (v:=(.bool _)) rfl rfl rfl ?_))))))))))
    obtain rfl:i=xs.length:=by omega
    exact ⟨congrArg Value.bool (decide_eq_true (JC hle hb)).symm,H.ext⟩
end Go.Proofs.YtapphbmlkdhnmaaGreat

/- The accounts of the reference: Of; the dues, compared. -/
namespace Go.Proofs.YtapphbmlkdhnmaaGreat
open Go.GV
attribute [local irreducible] AL W Wq Wt

set_option maxRecDepth 20000 in
theorem Ls (a b:Option Addr) (n c m d:Nat) (xs ys:List Du) (w:World) (R:Rd w a 7 Cf xs) (hn:xs.length=n) (hn2:n≤1000000) (Ry:Rd w b 7 Cf ys) (hm:ys.length=m) (hm2:m≤1000000) :
  Ret Tryz.prog 17 #[.slice a n c,.slice b m d] w fun v w'=>v = .bool (decide (xs=ys))∧Ext [] w w':=by
 subst hn hm
 obtain ⟨w0,rfl⟩:∃ w0,w0=w:=⟨_,rfl⟩
 have H:=Ctx.start w0 []
 refine A9 (fn:=Tryz.f17) Tryz.func17 rfl [.slice a xs.length c,.slice b ys.length d] rfl (by kernel_rfl) ?_
 refine Af (Ai rfl rfl (Ab (Aa (An (Af (Aj rfl rfl (AV rfl B4 rfl (Aj rfl rfl (AV rfl B4 rfl (Cp rfl rfl rfl ?_))))))))))
 refine Ab (Aa (Aq _ rfl ?_ ?_))
 ·intro h1
  replace h1:=CY h1
  refine Af (Ai rfl rfl (Ab (Aa (A8 (Al (AB (v:=(.bool _)) rfl rfl rfl ?_))))))
  exact ⟨congrArg Value.bool (decide_eq_false fun h=>by rw [h] at h1; simp at h1).symm,H.ext⟩
 ·intro h1
  replace h1:=CZ h1
  have hle:xs.length=ys.length:=by omega
  refine Ao (Aa (An (Af (Ae rfl rfl (Ab (Aa (Au (Bf 67106864 (α:=Nat) (fun i=>[(5,.int .i64 (i:Int))]) (fun i w'=>i≤xs.length∧Ctx w0 [] w' []∧∀ (k:Nat) (x y:Du),k<i→xs[k]? = some x→ys[k]? = some y→x=y) (fun i=>xs.length - i) 0 rfl ?_ ?_ ?_))))))))
  ·exact ⟨rfl,trivial⟩
  ·exact ⟨Nat.zero_le _,H,fun k x y h=>absurd h (Nat.not_lt_zero _)⟩
  ·clear H
   rintro i j w ⟨hi,H,hb⟩
   refine An (Af (Ad rfl rfl (Aj rfl rfl (AV rfl B4 rfl (AZ rfl rfl rfl (Ab (Aa (Aq _ rfl ?_ ?_))))))))
   ·intro h2
    replace h2:=AF h2
    obtain ⟨x,hx⟩:=A0 (l:=xs) (i:=i) (by omega)
    obtain ⟨y,hy⟩:=A0 (l:=ys) (i:=i) (by omega)
    refine Ao (Aa (An (Au (DE (fun x=>x=_) B0 (by kernel_rfl) rfl ?_))))
    refine Bx rfl rfl (AP rfl rfl (Bs R rfl B4 B2 rfl rfl (by omega) (by omega) (by rfl) ?_))
    refine FM _ rfl E7 B2 rfl rfl (by rintro _ rfl; exact ((R.ext0 H.drew.ext).row hx rfl)) ?_
    refine Bx rfl rfl (AP rfl rfl (Bs Ry rfl B4 B2 rfl rfl (by omega) (by omega) (by rfl) ?_))
    refine FM _ rfl E7 B2 rfl rfl (by rintro _ rfl; exact ((Ry.ext0 H.drew.ext).row hy rfl)) ?_
    refine Qq (ks:=[true,true,true,true,true,true,false]) (xs:=Cf x) (ys:=Cf y) (decide (x=y)) rfl (by kernel_rfl) rfl rfl ⟨rfl,rfl,rfl,rfl,rfl,rfl,True.intro,True.intro⟩ (QO x y) ?_
    refine BJ ?_
    rintro _ rfl
    replace H:=H.drew
    refine Aq _ rfl ?_ ?_
    ·intro h3
     refine Af (Ai rfl rfl (Ab (Aa (A8 (A1 (Al (Al (A1 (Al (AB (v:=(.bool _)) rfl rfl rfl ?_))))))))))
     have hne:¬ x=y:=by simpa using h3
     exact ⟨congrArg Value.bool (decide_eq_false fun h=>by subst h; rw [hx] at hy; injection hy with hy; exact hne hy).symm,H.ext⟩
    ·intro h3
     refine Ao (A5 (Aa (Av (Ad rfl rfl (Ap rfl rfl rfl (by omega) (by omega) ?_)))))
     refine Ae rfl rfl (Ab (Aa ?_))
     have heq:x=y:=by simpa using h3
     refine ⟨i+1,rfl,⟨rfl,trivial⟩,⟨by omega,H,fun k x' y' hk hx' hy'=>?_⟩,by omega⟩
     rcases Nat.lt_or_ge k i with h7 | h7
     ·exact hb k x' y' h7 hx' hy'
     ·obtain rfl:k=i:=by omega
      rw [hx] at hx'; rw [hy] at hy'
      cases hx'; cases hy'
      exact heq
   ·intro h2
    replace h2:=AG h2
    refine Bc (Ak (Ak (AD (Aa (Af (Ai rfl rfl (Ab (Aa (A8 (AB (v:=(.bool _)) rfl rfl rfl ?_))))))))))
    obtain rfl:i=xs.length:=by omega
    exact ⟨congrArg Value.bool (decide_eq_true (JC hle hb)).symm,H.ext⟩
set_option maxRecDepth 20000 in
set_option maxHeartbeats 4000000 in
theorem WU (a:Option Addr) (n c:Nat) (acs:List Ac) (w:World) (R:Rd w a 2 CB acs) (hn:acs.length=n) (hm:n≤1000000000) :
  Ret Tryz.prog 55 #[.slice a n c] w fun v w'=>∃ p,v = .tuple #[p,.int .i64 (DB acs)]∧(DB acs≠0→p = .pointer none)∧(DB acs=0→∃ bd a' c' full,p=ptr bd∧w'.heap[bd]? = some (Bl 52 [.slice a' acs.length c'])∧OS a' acs.length c' 2 full (acs.flatMap CB) ∧
   (∀ x∈ent a' 64 full,w'.heap[x.1]? = some x.2∧w.heap.size≤x.1∧x.1≠bd)∧w.heap.size≤bd)∧Ext [] w w':=by
 subst hn
 obtain ⟨w0,rfl⟩:∃ w0,w0=w:=⟨_,rfl⟩
 refine A9 (fn:=Tryz.f55) Tryz.func55 rfl [.slice a acs.length c] rfl (by kernel_rfl) ?_
 refine Af (AW rfl rfl (Ae rfl rfl (Ab (Aa (An (Af (Aj rfl rfl (AV rfl CL rfl (Ck rfl rfl rfl (Ab (Aa ?_)))))))))))
 refine Aq _ rfl ?_ ?_
 ·intro h1
  replace h1:=AF h1
  refine Af (AW rfl rfl (Ae rfl rfl (Ab (Aa (A8 (Al (Cq (v1:=(.pointer _)) (v2:=(.int _ _)) rfl rfl rfl rfl ?_)))))))
  have h1':DB acs=6:=by unfold DB; rw [if_pos (by omega)]
  exact ⟨_,by rw [h1'],fun _=>rfl,(fun h=>by omega),Ext.refl _ _⟩
 ·intro h1
  replace h1:=AG h1
  have h1':¬ 16<acs.length:=by omega
  refine Ao (Aa (An (Af (Ae rfl rfl (Ab (Aa (Au (Bf 8589932572 (α:=Nat) (fun i=>[(4,.int .i64 (i:Int))]) (fun i w'=>i≤acs.length∧w0=w'∧(∀ (k:Nat) (x:Ac),k<i→acs[k]? = some x→F3 x=true)) (fun i=>acs.length - i) 0 rfl ?_ ?_ ?_))))))))
  ·exact ⟨rfl,trivial⟩
  ·exact ⟨Nat.zero_le _,rfl,(fun k x h=>absurd h (Nat.not_lt_zero _))⟩
  ·rintro i j w ⟨hi,rfl,hall⟩
   refine An (Af (Ad rfl rfl (Aj rfl rfl (AV rfl CL rfl (AZ rfl rfl rfl (Ab (Aa (Aq _ rfl ?_ ?_))))))))
   ·intro h2
    replace h2:=AF h2
    obtain ⟨x,hx⟩:=A0 (l:=acs) (i:=i) (by omega)
    refine Ao (Aa (An (Au (Af (BD (α:=Unit) 8589803520 (fun _=>[(32,.bool (!F3 x))]) (fun _ w'=>w'=w0) rfl ?_ ?_)))))
    ·refine Aj rfl rfl (Ad rfl rfl (AK R rfl CL Dc rfl rfl (by omega) (by omega) (by rfl) ?_))
     refine Ah rfl EJ rfl (Bb rfl Bt rfl ((R.fld hx rfl (j:=0) rfl)) ?_)
     refine Am rfl NZ (G9 x.ba _) rfl ?_
     rintro v w ⟨rfl,rfl⟩
     refine B1 rfl rfl (Aw rfl rfl (AE 24 rfl ?_ ?_))
     ·intro h1
      replace h1:=Bv h1
      refine Ag rfl (Ag rfl (Ag rfl (Ag rfl (Ag rfl (Ag rfl (Ag rfl (AA rfl rfl (.bool _) rfl (Ab ?_))))))))
      exact ⟨rfl,(),rfl,⟨congrArg Value.bool (by unfold F3; rw [Bool.eq_iff_iff]; simp_all; try omega),trivial⟩,rfl⟩
     ·intro h2
      replace h2:=Bw h2
      refine Aj rfl rfl (Ad rfl rfl (AK R rfl CL Dc rfl rfl (by omega) (by omega) (by rfl) ?_))
      refine Ah rfl Iz rfl (Bb rfl Bt rfl ((R.fld hx rfl (j:=1) rfl)) ?_)
      refine Am rfl NZ (G9 x.re _) rfl ?_
      rintro v w ⟨rfl,rfl⟩
      refine B1 rfl rfl (A6 rfl rfl (.bool _) rfl (Ab ?_))
      exact ⟨rfl,(),rfl,⟨congrArg Value.bool (by unfold F3; rw [Bool.eq_iff_iff]; simp_all; try omega),trivial⟩,rfl⟩
    rintro - j32 w hw
    subst w
    refine Aq _ rfl ?_ ?_
    ·intro h3
     replace h3:=Bv h3
     refine Af (AW rfl rfl (Ae rfl rfl (Ab (Aa (A8 (A1 (Al (Al (A1 (Al (Cq (v1:=(.pointer _)) (v2:=(.int _ _)) rfl rfl rfl rfl ?_)))))))))))
     have h3':DB acs=1:=by unfold DB; rw [if_neg h1',if_pos (C9 hx (by simpa using h3))]
     exact ⟨_,by rw [h3'],fun _=>rfl,(fun h=>by omega),Ext.refl _ _⟩
    ·intro h3
     replace h3:=Bw h3
     refine Ao (A5 (Aa (Av (Ad rfl rfl (Ap rfl rfl rfl (by omega) (by omega) ?_)))))
     refine Ae rfl rfl (Ab (Aa ?_))
     refine ⟨i+1,rfl,⟨rfl,trivial⟩,⟨by omega,rfl,(fun k y hk hy=>?_)⟩,by omega⟩
     rcases Nat.lt_or_ge k i with h7 | h7
     ·exact hall k y h7 hy
     ·obtain rfl:k=i:=by omega
      rw [hx] at hy
      cases hy
      simpa using h3
   ·intro h2
    replace h2:=AG h2
    obtain rfl:i=acs.length:=by omega
    have hal:acs.all F3=true:=CV fun k x hk hx=>hall k x hk hx
    have H:=Ctx.start w0 []
    obtain ⟨tt,htt⟩:∃ tt,tt=Fg (acs.map Ac.ba):=⟨_,rfl⟩
    have hC:DB acs=tt.2:=by unfold DB; rw [if_neg h1',if_neg (by rw [hal]; decide),htt]
    rw [hC]
    refine Bc (Ak (Ak (AD (Aa (Af (Aj rfl rfl (Am rfl V6 (Oz a acs.length c acs _ R rfl (by omega)) rfl ?_)))))))
    rintro v w F4
    obtain ⟨a4,n4,c4,f4,rfl,O4,hb4⟩:=F4.ex
    replace H:=H.call F4.ext
    have hl4:=O4.llen
    rw [List.length_map,List.length_map] at hl4
    refine Am rfl VR (Lq a4 n4 c4 (acs.map Ac.ba) _ (O4.rd1 fun x hx=>(hb4 x hx).1) (by rw [List.length_map]; omega) (by omega)) rfl ?_
    rintro v w ⟨rfl,rfl⟩
    rw [← htt]
    refine B9 rfl rfl (A3 rfl rfl rfl (A3 rfl rfl rfl (Ae rfl rfl (Ae rfl rfl (Ab (Aa (An (Af (Ad rfl rfl (Cp rfl rfl rfl ?_))))))))))
    refine Ab (Aa (Aq _ rfl ?_ ?_))
    ·intro h5
     replace h5:=CY h5
     refine Af (Ad rfl rfl (AW rfl rfl (Ae rfl rfl (Ab (Aa (A8 (Al (Cq (v1:=(.pointer _)) (v2:=(.int _ _)) rfl rfl rfl rfl ?_))))))))
     exact ⟨_,rfl,fun _=>rfl,(fun h=>absurd h h5),H.ext⟩
    ·intro h5
     replace h5:=CZ h5
     refine Ao (Aa (Af (CE [.slice none 0 0] rfl pl_52 zc_52 (by kernel_rfl) ?_)))
     refine BC rfl [.slice none 0 0] (.agg _) rfl rfl H ?_
     rintro b43 w - H
     refine AW rfl rfl (Ab (Aa (Af (A2 rfl rfl (A2 rfl rfl (AJ rfl rfl (Ah rfl FG rfl (AN rfl GK rfl H at0 rfl (Aj rfl rfl (Fz (L:=[_]) (a:=none) (n:=0) (c:=0) (full:=[]) (l:=[]) rfl CL CL Dc V2 Hr rfl (by decide) (acs.flatMap CB) rfl rfl H OS.nil (KG acs) (Ox acs) ((R.ext0 H.ext).app (fun _ _=>rfl) (by omega)) (by omega) ?_))))))))))
     rintro a7 c7 full7 w H O
     rw [show 0+acs.length=acs.length from Nat.zero_add _]
     refine AJ rfl rfl (Ah rfl FG rfl (Cy (.slice _ _ _) rfl sz_22 rfl rfl rfl H at0 (by decide) ?_))
     rintro w H
     refine Ab (Aa (Af (A2 rfl rfl (AW rfl rfl (Ae rfl rfl (Ab (Aa (A8 (Cq (v1:=(.pointer _)) (v2:=(.int _ _)) rfl rfl rfl rfl ?_)))))))))
     have h5':tt.2=0:=by omega
     rw [List.nil_append,Nat.zero_add] at O
     refine ⟨_,by rw [h5'],(fun h=>absurd h5' h),(fun _=>⟨b43,a7,c7,full7,rfl,H.get at0,O,fun x hx=>?_,?_⟩),H.ext⟩
     ·have hm:=List.mem_cons_of_mem (b43,Bl 52 [.slice a7 acs.length c7]) hx
      refine ⟨H.blk x hm,(H.own x hm).elim (fun h=>by cases h) id,fun h=>?_⟩
      exact (List.pairwise_cons.1 H.nd).1 x hx h.symm
     ·exact (H.own (b43,_) (List.mem_cons_self ..)).elim (fun h=>by cases h) id
end Go.Proofs.YtapphbmlkdhnmaaGreat

/- The dues of the reference: Of. -/
namespace Go.Proofs.YtapphbmlkdhnmaaGreat
open Go.GV
attribute [local irreducible] AL W Wq Wt

set_option maxRecDepth 20000 in
set_option maxHeartbeats 4000000 in
theorem O6 (d:Du) (w:World):Ret Tryz.prog 76 #[Gv d] w fun v w'=>v = .bool (DS d)∧Ext [] w w':=by
 obtain ⟨w0,rfl⟩:∃ w0,w0=w:=⟨_,rfl⟩
 have H:=Ctx.start w0 []
 refine A9 (fn:=Tryz.f76) Tryz.func76 rfl [Gv d] rfl (by kernel_rfl) ?_
 refine Af (BC rfl (Cf d) (.agg _) rfl rfl H ?_)
 rintro b1 w - H
 refine Ai rfl rfl (Ab (Aa (Af (BD (α:=Unit) 536870904 (fun _=>[(3,.bool (EE d.fr && (EE d.to && !decide (d.fr=d.to))))]) (fun _ w'=>Ctx w0 [] w' [(b1,Bl 62 (Cf d))]) rfl ?_ ?_))))
 ·refine Ah rfl E1 rfl (AN rfl BV rfl H at0 rfl (Cx rfl rfl rfl (Aw rfl rfl (AE 7 rfl ?_ ?_))))
  ·intro h1
   replace h1:=AF h1
   refine Ah rfl E1 rfl (AN rfl BV rfl H at0 rfl (AZ rfl rfl rfl (AA rfl rfl (.bool _) rfl (Aw rfl rfl (AE 12 rfl ?_ ?_)))))
   ·intro h2
    replace h2:=AF h2
    refine Ah rfl E3 rfl (AN rfl BV rfl H at0 rfl (Cx rfl rfl rfl (AA rfl rfl (.bool _) rfl (Aw rfl rfl (AE 17 rfl ?_ ?_)))))
    ·intro h3
     replace h3:=AF h3
     refine Ah rfl E3 rfl (AN rfl BV rfl H at0 rfl (AZ rfl rfl rfl (AA rfl rfl (.bool _) rfl (Aw rfl rfl (AE 22 rfl ?_ ?_)))))
     ·intro h4
      replace h4:=AF h4
      refine Ah rfl E1 rfl (AN rfl BV rfl H at0 rfl (Ah rfl E3 rfl (AN rfl BV rfl H at0 rfl (Cp rfl rfl rfl (AA rfl rfl (.bool _) rfl (Ai rfl rfl (Ab ?_)))))))
      exact ⟨rfl,(),rfl,⟨congrArg Value.bool (by unfold EE; rw [Bool.eq_iff_iff]; simp_all; try omega),trivial⟩,H⟩
     ·intro h5
      replace h5:=AG h5
      refine Ag rfl (Ag rfl (Ag rfl (Ag rfl (Ag rfl (A6 rfl rfl (.bool _) rfl (Ai rfl rfl (Ab ?_)))))))
      exact ⟨rfl,(),rfl,⟨congrArg Value.bool (by unfold EE; rw [Bool.eq_iff_iff]; simp_all; try omega),trivial⟩,H⟩
    ·intro h6
     replace h6:=AG h6
     refine Ag rfl (Ag rfl (Ag rfl (A6 rfl rfl (.bool _) rfl (Aw rfl rfl (Ag rfl (Ag rfl (Ag rfl (Ag rfl (Ag rfl ?_)))))))))
     refine A6 rfl rfl (.bool _) rfl (Ai rfl rfl (Ab ?_))
     exact ⟨rfl,(),rfl,⟨congrArg Value.bool (by unfold EE; rw [Bool.eq_iff_iff]; simp_all; try omega),trivial⟩,H⟩
   ·intro h7
    replace h7:=AG h7
    refine Ag rfl (Ag rfl (Ag rfl (A6 rfl rfl (.bool _) rfl (Aw rfl rfl (Ag rfl (Ag rfl (Ag rfl (A6 rfl rfl (.bool _) rfl (Aw rfl rfl ?_)))))))))
    refine Ag rfl (Ag rfl (Ag rfl (Ag rfl (Ag rfl (A6 rfl rfl (.bool _) rfl (Ai rfl rfl (Ab ?_)))))))
    exact ⟨rfl,(),rfl,⟨congrArg Value.bool (by unfold EE; rw [Bool.eq_iff_iff]; simp_all; try omega),trivial⟩,H⟩
  ·intro h8
   replace h8:=AG h8
   refine Ag rfl (Ag rfl (Ag rfl (A6 rfl rfl (.bool _) rfl (Aw rfl rfl (Ag rfl (Ag rfl (Ag rfl (A6 rfl rfl (.bool _) rfl (Aw rfl rfl ?_)))))))))
   refine Ag rfl (Ag rfl (Ag rfl (A6 rfl rfl (.bool _) rfl (Aw rfl rfl (Ag rfl (Ag rfl (Ag rfl (Ag rfl (Ag rfl ?_)))))))))
   refine A6 rfl rfl (.bool _) rfl (Ai rfl rfl (Ab ?_))
   exact ⟨rfl,(),rfl,⟨congrArg Value.bool (by unfold EE; rw [Bool.eq_iff_iff]; simp_all; try omega),trivial⟩,H⟩
 rintro - j3 w H
 refine Af (Aw rfl rfl (Aw rfl rfl (AE 30 rfl ?_ ?_)))
 ·intro h9
  refine Ah rfl Dp rfl (AN rfl Bt rfl H at0 rfl (Cx rfl rfl rfl (AA rfl rfl (.bool _) rfl (Aw rfl rfl (AE 35 rfl ?_ ?_)))))
  ·intro h10
   replace h10:=AF h10
   refine Ah rfl Dp rfl (AN rfl Bt rfl H at0 rfl (Am rfl NZ (G9 d.am _) rfl ?_))
   rintro v w ⟨rfl,rfl⟩
   refine AA rfl rfl (.bool _) rfl (Aw rfl rfl (AE 40 rfl ?_ ?_))
   ·intro h11
    refine Ah rfl J4 rfl (AN rfl Bt rfl H at0 rfl (Cx rfl rfl rfl (AA rfl rfl (.bool _) rfl (Aw rfl rfl (AE 45 rfl ?_ ?_)))))
    ·intro h12
     replace h12:=AF h12
     refine Ah rfl J4 rfl (AN rfl Bt rfl H at0 rfl (JY rfl rfl rfl (AA rfl rfl (.bool _) rfl (Aw rfl rfl (AE 50 rfl ?_ ?_)))))
     ·intro h13
      replace h13:=AF h13
      refine Ah rfl Ty rfl (AN rfl Bt rfl H at0 rfl (Cx rfl rfl rfl (AA rfl rfl (.bool _) rfl (Ai rfl rfl (Ab (Aa (A8 (AB (v:=(.bool _)) rfl rfl rfl ?_))))))))
      exact ⟨congrArg Value.bool (by unfold DS; generalize (EE d.fr && (EE d.to && !decide (d.fr=d.to)))=B at *; rw [Bool.eq_iff_iff]; simp_all; try omega),H.ext⟩
     ·intro h14
      replace h14:=AG h14
      refine Ag rfl (Ag rfl (Ag rfl (A6 rfl rfl (.bool _) rfl (Ai rfl rfl (Ab (Aa (A8 (AB (v:=(.bool _)) rfl rfl rfl ?_))))))))
      exact ⟨congrArg Value.bool (by unfold DS; generalize (EE d.fr && (EE d.to && !decide (d.fr=d.to)))=B at *; rw [Bool.eq_iff_iff]; simp_all; try omega),H.ext⟩
    ·intro h15
     replace h15:=AG h15
     refine Ag rfl (Ag rfl (Ag rfl (A6 rfl rfl (.bool _) rfl (Aw rfl rfl (Ag rfl (Ag rfl (Ag rfl (A6 rfl rfl (.bool _) rfl (Ai rfl rfl ?_)))))))))
     refine Ab (Aa (A8 (AB (v:=(.bool _)) rfl rfl rfl ?_)))
     exact ⟨congrArg Value.bool (by unfold DS; generalize (EE d.fr && (EE d.to && !decide (d.fr=d.to)))=B at *; rw [Bool.eq_iff_iff]; simp_all; try omega),H.ext⟩
   ·intro h16
    refine Ag rfl (Ag rfl (Ag rfl (A6 rfl rfl (.bool _) rfl (Aw rfl rfl (Ag rfl (Ag rfl (Ag rfl (A6 rfl rfl (.bool _) rfl (Aw rfl rfl ?_)))))))))
    refine Ag rfl (Ag rfl (Ag rfl (A6 rfl rfl (.bool _) rfl (Ai rfl rfl (Ab (Aa (A8 (AB (v:=(.bool _)) rfl rfl rfl ?_))))))))
    exact ⟨congrArg Value.bool (by unfold DS; generalize (EE d.fr && (EE d.to && !decide (d.fr=d.to)))=B at *; rw [Bool.eq_iff_iff]; simp_all; try omega),H.ext⟩
  ·intro h17
   replace h17:=AG h17
   refine Ag rfl (Ag rfl (Ag rfl (A6 rfl rfl (.bool _) rfl (Aw rfl rfl (Ag rfl (Ag rfl (Ag rfl (A6 rfl rfl (.bool _) rfl (Aw rfl rfl ?_)))))))))
   refine Ag rfl (Ag rfl (Ag rfl (A6 rfl rfl (.bool _) rfl (Aw rfl rfl (Ag rfl (Ag rfl (Ag rfl (A6 rfl rfl (.bool _) rfl (Ai rfl rfl ?_)))))))))
   refine Ab (Aa (A8 (AB (v:=(.bool _)) rfl rfl rfl ?_)))
   exact ⟨congrArg Value.bool (by unfold DS; generalize (EE d.fr && (EE d.to && !decide (d.fr=d.to)))=B at *; rw [Bool.eq_iff_iff]; simp_all; try omega),H.ext⟩
 ·intro h18
  refine Ag rfl (Ag rfl (Ag rfl (A6 rfl rfl (.bool _) rfl (Aw rfl rfl (Ag rfl (Ag rfl (Ag rfl (A6 rfl rfl (.bool _) rfl (Aw rfl rfl ?_)))))))))
  refine Ag rfl (Ag rfl (Ag rfl (A6 rfl rfl (.bool _) rfl (Aw rfl rfl (Ag rfl (Ag rfl (Ag rfl (A6 rfl rfl (.bool _) rfl (Aw rfl rfl ?_)))))))))
  refine Ag rfl (Ag rfl (Ag rfl (A6 rfl rfl (.bool _) rfl (Ai rfl rfl (Ab (Aa (A8 (AB (v:=(.bool _)) rfl rfl rfl ?_))))))))
  exact ⟨congrArg Value.bool (by unfold DS; generalize (EE d.fr && (EE d.to && !decide (d.fr=d.to)))=B at *; rw [Bool.eq_iff_iff]; simp_all; try omega),H.ext⟩
set_option maxRecDepth 20000 in
set_option maxHeartbeats 2000000 in
theorem WV (a:Option Addr) (n c:Nat) (ds:List Du) (w:World) (R:Rd w a 7 Cf ds) (hn:ds.length=n) (hm:n≤1000000) :
  Ret Tryz.prog 115 #[.slice a n c] w fun v w'=>Fresh w w' 2 1 v ((ds.map Du.am).map FJ):=by
 subst hn
 obtain ⟨w0,rfl⟩:∃ w0,w0=w:=⟨_,rfl⟩
 have H:=Ctx.start w0 []
 refine A9 (fn:=Tryz.f115) Tryz.func115 rfl [.slice a ds.length c] rfl (by kernel_rfl) ?_
 refine Af (Az rfl rfl (Ab (Aa (Af (Az rfl rfl (Ab (Aa (An (Af (Ae rfl rfl (Ab (Aa ?_))))))))))))
 refine Au (Bf 524280 (α:=LSt) (fun t=>[(3,.slice t.a t.i t.c),(4,.int .i64 (t.i:Int))]) (fun t w'=>t.i≤ds.length∧OS t.a t.i t.c 1 t.full (((ds.take t.i).map Du.am).map FJ)∧Ctx w0 [] w' (ent t.a 2 t.full)) (fun t=>ds.length - t.i) ⟨0,none,0,[]⟩ rfl ?_ ?_ ?_)
 ·exact ⟨rfl,rfl,trivial⟩
 ·exact ⟨Nat.zero_le _,OS.nil,H⟩
 ·rintro ⟨i,a2,c2,full⟩ j w ⟨hi,O,H⟩; dsimp only at hi O H; dsimp only
  refine An (Af (Ad rfl rfl (Aj rfl rfl (AV rfl B4 rfl (AZ rfl rfl rfl (Ab (Aa (Aq _ rfl ?_ ?_))))))))
  ·intro h1
   replace h1:=AF h1
   obtain ⟨x,hx⟩:=A0 (l:=ds) (i:=i) (by omega)
   refine Ao (Aa (An (Au (Av (Aj rfl rfl (Aj rfl rfl (Ad rfl rfl (AK R rfl B4 B2 rfl rfl (by omega) (by omega) (by rfl) ?_))))))))
   refine Ah rfl Dp rfl (Bb rfl Bt rfl (((R.ext0 H.ext).fld hx rfl (j:=3) rfl)) ?_)
   refine C3 _ (.int _ _) rfl AO Bu Fa rfl (by decide) (by decide) rfl rfl rfl H ?_
   rintro b17 w - H
   refine Cl (L:=[]) rfl AO AO Bu HN Fa rfl (by decide) rfl rfl H O rfl (by simp [Bm]) (by omega) ?_
   rintro a' c' full' w H O
   refine Az rfl rfl (Ab (A5 (Aa (Av (Ad rfl rfl (Ap rfl rfl rfl (by omega) (by omega) ?_))))))
   refine Ae rfl rfl (Ab (Aa ?_))
   exact ⟨⟨i+1,a',c',full'⟩,rfl,⟨rfl,rfl,trivial⟩,⟨by dsimp only; omega,by dsimp only; rw [Fk hx,List.map_append]; exact O,H⟩,by dsimp only; omega⟩
  ·intro h1
   replace h1:=AG h1
   refine Bc (Ak (Ak (AD (Aa (Af (Aj rfl rfl (Az rfl rfl (Ab (Aa (A8 (AB (v:=(.slice _ _ _)) rfl rfl rfl ?_)))))))))))
   obtain rfl:i=ds.length:=by omega
   rw [List.take_length] at O
   exact Ctx.fresh (L:=[]) H O
end Go.Proofs.YtapphbmlkdhnmaaGreat

/- The dues of the reference: Of, whole. -/
namespace Go.Proofs.YtapphbmlkdhnmaaGreat
open Go.GV
attribute [local irreducible] AL W Wq Wt

theorem JD (ds:List Du):∀ v∈ds.flatMap Cf,Bm v=true:=fun v hv=>by
 obtain ⟨a,_,h⟩:=List.mem_flatMap.1 hv
 exact DM a v h
theorem Hd (ds:List Du):(ds.flatMap Cf).length=ds.length*7:=by
 induction ds with
 | nil=>rfl
 | cons a ds ih =>
  rw [List.flatMap_cons,List.length_append,ih]
  show 7+ds.length*7=(ds.length+1)*7
  omega
theorem QP {ds:List Du} {i:Nat} {p:Du} (h0:0<i) (h:ds[i - 1]? = some p):HC 0 (ds.take i)=p.id:=by
 obtain ⟨j,rfl⟩:∃ j,i=j+1:=⟨i - 1,by omega⟩
 rw [List.take_add_one,show ds[j]? = some p from h]
 exact JT 0 _ p
set_option maxRecDepth 20000 in
set_option maxHeartbeats 4000000 in
theorem WW (a:Option Addr) (n c:Nat) (ds:List Du) (nx:Int) (w:World) (R:Rd w a 7 Cf ds) (hn:ds.length=n) (hn2:n≤1000000000) (hnx:0≤nx∧nx<18446744073709551616) (hid:∀ d∈ds,0≤d.id∧d.id<18446744073709551616) :
  Ret Tryz.prog 56 #[.slice a n c,.int .u64 nx] w fun v w'=>∃ p,v = .tuple #[p,.int .i64 (ofC ds nx)]∧(ofC ds nx≠0→p = .pointer none)∧(ofC ds nx=0→∃ bd a' c' full,p=ptr bd∧w'.heap[bd]? = some (Bl 48 [.slice a' ds.length c',.int .u64 nx])∧OS a' ds.length c' 7 full (ds.flatMap Cf) ∧
   (∀ x∈ent a' 62 full,w'.heap[x.1]? = some x.2∧w.heap.size≤x.1∧x.1≠bd)∧w.heap.size≤bd)∧Ext [] w w':=by
 subst hn
 obtain ⟨w0,rfl⟩:∃ w0,w0=w:=⟨_,rfl⟩
 have H:=Ctx.start w0 []
 refine A9 (fn:=Tryz.f56) Tryz.func56 rfl [.slice a ds.length c,.int .u64 nx] rfl (by kernel_rfl) ?_
 refine Af (AW rfl rfl (Ae rfl rfl (Ab (Aa (An (Af (Aj rfl rfl (AV rfl B4 rfl (Ck rfl rfl rfl (Ab (Aa ?_)))))))))))
 refine Aq _ rfl ?_ ?_
 ·intro h1
  replace h1:=AF h1
  refine Af (AW rfl rfl (Ae rfl rfl (Ab (Aa (A8 (Al (Cq (v1:=(.pointer _)) (v2:=(.int _ _)) rfl rfl rfl rfl ?_)))))))
  have h1':ofC ds nx=6:=by unfold ofC; rw [if_pos (by omega)]
  exact ⟨_,by rw [h1'],fun _=>rfl,(fun h=>by omega),H.ext⟩
 ·intro h1
  replace h1:=AG h1
  have h1':¬ 64<ds.length:=by omega
  refine Ao (Aa (An (Af (Ae rfl rfl (Ab (Aa (Au (Bf 1152921504606838896 (α:=Nat) (fun i=>[(6,.int .i64 (i:Int))]) (fun i w'=>i≤ds.length∧Ctx w0 [] w' []∧Fb nx 0 (ds.take i)=true) (fun i=>ds.length - i) 0 rfl ?_ ?_ ?_))))))))
  ·exact ⟨rfl,trivial⟩
  ·exact ⟨Nat.zero_le _,H,rfl⟩
  ·clear H
   rintro i j w ⟨hi,H,has⟩
   refine An (Af (Ad rfl rfl (Aj rfl rfl (AV rfl B4 rfl (AZ rfl rfl rfl (Ab (Aa (Aq _ rfl ?_ ?_))))))))
   ·intro h3
    replace h3:=AF h3
    obtain ⟨d,hd⟩:=A0 (l:=ds) (i:=i) (by omega)
    obtain ⟨pd,hpv⟩:∃ pd:Du,0<i→ds[i - 1]? = some pd:=by
     rcases Nat.eq_zero_or_pos i with h | h
     ·exact ⟨d,fun h7=>by omega⟩
     ·obtain ⟨pd,hpd⟩:=A0 (l:=ds) (i:=i - 1) (by omega)
      exact ⟨pd,fun _=>hpd⟩
    obtain ⟨ah,hah⟩:∃ ah,ah=HC 0 (ds.take i):=⟨_,rfl⟩
    have hah0:i=0→ah=0:=fun h=>by subst h; exact hah
    have hah1:0<i→ah=pd.id:=fun h=>by rw [hah]; exact QP h (hpv h)
    have hahp:0≤ah:=by rw [hah]; exact (Js has).2.2
    have hdi:=hid d (List.mem_of_getElem? hd)
    have htk:ds.take (i+1)=ds.take i++[d]:=by rw [List.take_add_one,hd]; rfl
    have hasc:Fb nx 0 (ds.take (i+1))=(DS d && (decide (ah<d.id) && decide (d.id<nx))):=by
     rw [htk,Gn,has,Bool.true_and,← hah]
     show (_ && true)=_
     rw [Bool.and_true]
    have hpdi:0<i→0≤pd.id∧pd.id<18446744073709551616:=fun h=>hid pd (List.mem_of_getElem? (hpv h))
    have hbad:(DS d && (decide (ah<d.id) && decide (d.id<nx)))=false→ofC ds nx=1:=fun h4=>by
     unfold ofC
     rw [if_neg h1']
     split
     ·rfl
     ·rw [if_pos]
      have h5:Fb nx 0 ds=Fb nx 0 (ds.take (i+1)++ds.drop (i+1)):=by rw [List.take_append_drop]
      rw [h5,Gn,hasc,h4]; rfl
    have hnext:(DS d && (decide (ah<d.id) && decide (d.id<nx)))=true→Fb nx 0 (ds.take (i+1))=true:=fun h4=>by rw [hasc]; exact h4
    refine Ao (Aa (An (Au (CP [([0,1,2,3],4),([5,6,7,8,9,10,11,12,13,14,15,16,17,18,19,20,21,22,23,24,25,26,27,28,29,30,31,32,33,34,35,36,37,38,39],40)] (fun z=>Ext [] w0 z) [] B0 (by kernel_rfl) (H.drew.ext) ?_))))
    refine AU rfl rfl ?_
    refine Bi rfl rfl (AS rfl rfl (BT R rfl B4 B2 rfl rfl (by omega) (by omega) (by rfl) ?_))
    refine GJ _ rfl E7 B2 rfl rfl (fun _ hx=>(R.ext0 hx).row hd rfl) ?_
    refine Ba ?_
    replace H:=H.drew
    refine Am rfl Zh (O6 d _) rfl ?_
    rintro v w ⟨rfl,hx23⟩
    replace H:=H.call hx23
    refine Ab (BL (H.ext) (AU rfl rfl ?_))
    refine M6 rfl rfl (CU rfl rfl (GI 25 rfl ?_ ?_))
    ·intro g1
     replace g1:=Bv g1
     refine Bq rfl (Bq rfl (Bq rfl (Bq rfl (Bq rfl (Bq rfl (FY rfl rfl (.bool _) rfl (CU rfl rfl (Bq rfl (Bq rfl ?_)))))))))
     refine Bq rfl (Bq rfl (Bq rfl (Bq rfl (Bq rfl (FY rfl rfl (.bool _) rfl (CU rfl rfl (Bq rfl (Bq rfl (Bq rfl ?_)))))))))
     refine Bq rfl (Bq rfl (Bq rfl (Bq rfl (Bq rfl (Bq rfl (Bq rfl (Bq rfl (Bq rfl (Bq rfl ?_)))))))))
     refine Bq rfl (Bq rfl (Bq rfl (Ba (AA rfl rfl (.bool _) rfl (Ab (BL (H.ext) (BO (Dj rfl (Af (AW rfl rfl ?_))))))))))
     refine Ae rfl rfl (Ab (Aa (A8 (A1 (Al (Al (A1 (Al (Cq (v1:=(.pointer _)) (v2:=(.int _ _)) rfl rfl rfl rfl ?_)))))))))
     exact ⟨_,by rw [hbad (by rw [show DS d=false by simpa using g1]; rfl)],fun _=>rfl,(fun h=>by rw [hbad (by rw [show DS d=false by simpa using g1]; rfl)] at h; omega),H.ext⟩
    ·intro g1
     replace g1:=Bw g1
     have g1':DS d=true:=by simpa using g1
     refine Bi rfl rfl (AS rfl rfl (BT R rfl B4 B2 rfl rfl (by omega) (by omega) (by rfl) ?_))
     refine AH rfl Dw rfl (BP rfl BK rfl (fun _ hx=>((R.ext0 hx).fld hd rfl (j:=0) rfl)) ?_)
     refine Tl rfl rfl rfl (G0 rfl rfl (.bool _) rfl (CU rfl rfl (GI 33 rfl ?_ ?_)))
     ·intro g2
      replace g2:=AF g2
      refine Bq rfl (Bq rfl (Bq rfl (Bq rfl (Bq rfl (Bq rfl (Bq rfl (FY rfl rfl (.bool _) rfl (CU rfl rfl (Bq rfl ?_)))))))))
      refine Bq rfl (Bq rfl (Bq rfl (Bq rfl (Bq rfl (Bq rfl (Bq rfl (Bq rfl (Bq rfl (Bq rfl ?_)))))))))
      refine Bq rfl (Bq rfl (Bq rfl (Bq rfl (Bq rfl (Ba (AA rfl rfl (.bool _) rfl (Ab (BL (H.ext) (BO (Dj rfl ?_))))))))))
      refine Af (AW rfl rfl (Ae rfl rfl (Ab (Aa (A8 (A1 (Al (Al (A1 (Al (Cq (v1:=(.pointer _)) (v2:=(.int _ _)) rfl rfl rfl rfl ?_)))))))))))
      have hb:=hbad (by rw [g1',Bool.true_and,decide_eq_false (show ¬ ah<d.id by omega)]; rfl)
      exact ⟨_,by rw [hb],fun _=>rfl,(fun h=>by omega),H.ext⟩
     ·intro g2
      replace g2:=AG g2
      refine Bi rfl rfl (AS rfl rfl (BT R rfl B4 B2 rfl rfl (by omega) (by omega) (by rfl) ?_))
      refine AH rfl Dw rfl (BP rfl BK rfl (fun _ hx=>((R.ext0 hx).fld hd rfl (j:=0) rfl)) ?_)
      refine AS rfl rfl (YU rfl rfl rfl (G0 rfl rfl (.bool _) rfl (CU rfl rfl (GI 42 rfl ?_ ?_))))
      ·intro g3
       replace g3:=AF g3
       refine Bq rfl (Bq rfl (Bq rfl (Bq rfl (Bq rfl (Bq rfl (Bq rfl (Bq rfl (Bq rfl (Bq rfl ?_)))))))))
       refine Bq rfl (Bq rfl (Bq rfl (Bq rfl (Bq rfl (Bq rfl (Ba (AA rfl rfl (.bool _) rfl (Ab (BL (H.ext) (BO ?_))))))))))
       refine Dj rfl (Af (AW rfl rfl (Ae rfl rfl (Ab (Aa (A8 (A1 (Al (Al (A1 (Al (Cq (v1:=(.pointer _)) (v2:=(.int _ _)) rfl rfl rfl rfl ?_))))))))))))
       have hb:=hbad (by rw [g1',Bool.true_and,decide_eq_false (show ¬ d.id<nx by omega),Bool.and_false])
       exact ⟨_,by rw [hb],fun _=>rfl,(fun h=>by omega),H.ext⟩
      ·intro g3
       replace g3:=AG g3
       refine AS rfl rfl (Vq rfl rfl rfl (CU rfl rfl (GI 45 rfl ?_ ?_)))
       ·intro g4
        replace g4:=AF g4
        have hp0:=hah1 (by omega)
        refine Bi rfl rfl (AS rfl rfl (Er rfl rfl rfl (by omega) (by omega) ?_))
        rw [show (i:Int) - 1=((i - 1:Nat):Int) by omega]
        refine BT R rfl B4 B2 rfl rfl (by omega) (by omega) (by rfl) ?_
        refine AH rfl Dw rfl (BP rfl BK rfl (fun _ hx=>((R.ext0 hx).fld (hpv (by omega)) rfl (j:=0) rfl)) ?_)
        refine Bi rfl rfl (AS rfl rfl (BT R rfl B4 B2 rfl rfl (by omega) (by omega) (by rfl) ?_))
        refine AH rfl Dw rfl (BP rfl BK rfl (fun _ hx=>((R.ext0 hx).fld hd rfl (j:=0) rfl)) ?_)
        refine YU rfl rfl rfl (FY rfl rfl (.bool _) rfl (Ba (A6 rfl rfl (.bool _) rfl (Ab (BL (H.ext) (BO (Aq _ rfl ?_ ?_)))))))
        ·intro g5
         replace g5:=AF g5
         refine Af (AW rfl rfl (Ae rfl rfl (Ab (Aa (A8 (A1 (Al (Al (A1 (Al (Cq (v1:=(.pointer _)) (v2:=(.int _ _)) rfl rfl rfl rfl ?_)))))))))))
         have hb:=hbad (by rw [g1',Bool.true_and,decide_eq_false (show ¬ ah<d.id by omega)]; rfl)
         exact ⟨_,by rw [hb],fun _=>rfl,(fun h=>by omega),H.ext⟩
        ·intro g5
         replace g5:=AG g5
         refine Ao (A5 (Aa (Av (Ad rfl rfl (Ap rfl rfl rfl (by omega) (by omega) ?_)))))
         refine Ae rfl rfl (Ab (Aa ?_))
         exact ⟨i+1,rfl,⟨rfl,trivial⟩,⟨by omega,H,hnext (by rw [g1',decide_eq_true (show ah<d.id by omega),decide_eq_true (show d.id<nx by omega)]; rfl)⟩,by omega⟩
       ·intro g4
        replace g4:=AG g4
        have hp0:=hah0 (by omega)
        refine Bq rfl (Bq rfl (Bq rfl (Bq rfl (Bq rfl (Bq rfl (Bq rfl (Bq rfl (Bq rfl (Bq rfl ?_)))))))))
        refine Bq rfl (Bq rfl (G0 rfl rfl (.bool _) rfl (Ba (A6 rfl rfl (.bool _) rfl (Ab (BL (H.ext) (BO (CJ rfl (Ao (A5 (Aa (Av ?_))))))))))))
        refine Ad rfl rfl (Ap rfl rfl rfl (by omega) (by omega) ?_)
        refine Ae rfl rfl (Ab (Aa ?_))
        exact ⟨i+1,rfl,⟨rfl,trivial⟩,⟨by omega,H,hnext (by rw [g1',decide_eq_true (show ah<d.id by omega),decide_eq_true (show d.id<nx by omega)]; rfl)⟩,by omega⟩
   ·intro h3
    replace h3:=AG h3
    obtain rfl:i=ds.length:=by omega
    rw [List.take_length] at has
    refine Bc (Ak (Ak (AD (Aa (An (Af (BD (α:=Unit) 72634054790231359488 (fun _=>[(65,.bool (!(decide (1≤nx) && decide (nx≤4611686018427387904))))]) (fun _ w'=>Ctx w0 [] w' []) rfl ?_ ?_)))))))
    ·refine Ad rfl rfl (AZ rfl rfl rfl (Aw rfl rfl (AE 62 rfl ?_ ?_)))
     ·intro h1
      replace h1:=AF h1
      refine Ag rfl (Ag rfl (AA rfl rfl (.bool _) rfl (Ab ?_)))
      exact ⟨rfl,(),rfl,⟨congrArg Value.bool (by rw [Bool.eq_iff_iff]; simp_all; try omega),trivial⟩,H⟩
     ·intro h2
      replace h2:=AG h2
      refine Ad rfl rfl (Ck rfl rfl rfl (A6 rfl rfl (.bool _) rfl (Ab ?_)))
      exact ⟨rfl,(),rfl,⟨congrArg Value.bool (by rw [Bool.eq_iff_iff]; simp_all; try omega),trivial⟩,H⟩
    rintro - j65 w H
    refine Aq _ rfl ?_ ?_
    ·intro h2
     replace h2:=Bv h2
     refine Af (AW rfl rfl (Ae rfl rfl (Ab (Aa (A8 (Al (Cq (v1:=(.pointer _)) (v2:=(.int _ _)) rfl rfl rfl rfl ?_)))))))
     have h2':ofC ds nx=1:=by unfold ofC; rw [if_neg h1',if_pos (by simpa using h2)]
     exact ⟨_,by rw [h2'],fun _=>rfl,(fun h=>by omega),H.ext⟩
    ·intro h2
     replace h2:=Bw h2
     have h2':(decide (1≤nx) && decide (nx≤4611686018427387904))=true:=by simpa using h2
     have h2n:¬ (decide (1≤nx) && decide (nx≤4611686018427387904))=false:=by rw [h2']; decide
     obtain ⟨tt,htt⟩:∃ tt,tt=Fg (ds.map Du.am):=⟨_,rfl⟩
     have hC:ofC ds nx=tt.2:=by unfold ofC; rw [if_neg h1',if_neg h2n,if_neg (by rw [has]; decide),htt]
     rw [hC]
     refine Ao (Aa (Af (Aj rfl rfl (Am rfl Z6 (WV a ds.length c ds _ (R.ext0 H.ext) rfl (by omega)) rfl ?_))))
     rintro v w F4
     obtain ⟨a4,n4,c4,f4,rfl,O4,hb4⟩:=F4.ex
     replace H:=H.call F4.ext
     have hl4:=O4.llen
     rw [List.length_map,List.length_map] at hl4
     refine Am rfl VR (Lq a4 n4 c4 (ds.map Du.am) _ (O4.rd1 fun x hx=>(hb4 x hx).1) (by rw [List.length_map]; omega) (by omega)) rfl ?_
     rintro v w ⟨rfl,rfl⟩
     rw [← htt]
     refine B9 rfl rfl (A3 rfl rfl rfl (A3 rfl rfl rfl (Ae rfl rfl (Ae rfl rfl (Ab (Aa (An (Af (Ad rfl rfl (Cp rfl rfl rfl ?_))))))))))
     refine Ab (Aa (Aq _ rfl ?_ ?_))
     ·intro h5
      replace h5:=CY h5
      refine Af (Ad rfl rfl (AW rfl rfl (Ae rfl rfl (Ab (Aa (A8 (Al (Cq (v1:=(.pointer _)) (v2:=(.int _ _)) rfl rfl rfl rfl ?_))))))))
      exact ⟨_,rfl,fun _=>rfl,(fun h=>absurd h h5),H.ext⟩
     ·intro h5
      replace h5:=CZ h5
      refine Ao (Aa (Af (Ad rfl rfl (CE [.slice none 0 0,.int .u64 nx] rfl pl_48 zc_48 (by kernel_rfl) ?_))))
      refine BC rfl [.slice none 0 0,.int .u64 nx] (.agg _) rfl rfl H ?_
      rintro b77 w - H
      refine AW rfl rfl (Ab (Aa (Af (A2 rfl rfl (A2 rfl rfl (AJ rfl rfl (Ah rfl Ec rfl (AN rfl Gw rfl H at0 rfl (Aj rfl rfl (Fz (L:=[_]) (a:=none) (n:=0) (c:=0) (full:=[]) (l:=[]) rfl B4 B4 B2 L7 Eh rfl (by decide) (ds.flatMap Cf) rfl rfl H OS.nil (Hd ds) (JD ds) ((R.ext0 H.ext).app (fun _ _=>rfl) (by omega)) (by omega) ?_))))))))))
      rintro a7 c7 full7 w H O
      rw [show 0+ds.length=ds.length from Nat.zero_add _]
      refine AJ rfl rfl (Ah rfl Ec rfl (Cy (.slice _ _ _) rfl Zj rfl rfl rfl H at0 (by (simp; done)) ?_))
      rintro w H
      refine Ab (Aa (Af (A2 rfl rfl (AW rfl rfl (Ae rfl rfl (Ab (Aa (A8 (Cq (v1:=(.pointer _)) (v2:=(.int _ _)) rfl rfl rfl rfl ?_)))))))))
      have h5':tt.2=0:=by omega
      rw [List.nil_append,Nat.zero_add] at O
      refine ⟨_,by rw [h5'],(fun h=>absurd h5' h),(fun _=>⟨b77,a7,c7,full7,rfl,H.get at0,O,fun x hx=>?_,?_⟩),H.ext⟩
      ·have hm:=List.mem_cons_of_mem (b77,Bl 48 [.slice a7 ds.length c7,.int .u64 nx]) hx
       refine ⟨H.blk x hm,(H.own x hm).elim (fun h=>by cases h) id,fun h=>?_⟩
       exact (List.pairwise_cons.1 H.nd).1 x hx h.symm
      ·exact (H.own (b77,_) (List.mem_cons_self ..)).elim (fun h=>by cases h) id
end Go.Proofs.YtapphbmlkdhnmaaGreat

/- The dues: Pay. -/
namespace Go.Proofs.YtapphbmlkdhnmaaGreat
open Go.GV
attribute [local irreducible] AL W Wq Wt

/-- What paying x at a due answers. -/
def pC (d:Du) (x:Int):Int:=if x<0 then 1 else if d.held=true then 14 else if d.am<x then 12 else 0
def pD (d:Du) (x:Int):Du:=if pC d x=0 then { d with am:=d.am - x } else d
set_option maxRecDepth 20000 in
set_option maxHeartbeats 2000000 in
theorem Y2 {b7 bx:Nat} {d:Du} {x:Int} (w:World) (h7:w.heap[b7]? = some (Bl 62 (Cf d))) (hx:w.heap[bx]? = some (Bl 2 [.int .i64 x])) (hne:bx≠b7) (ham:0≤d.am∧d.am≤4503599627370496) :
  Ret Tryz.prog 139 #[ptr b7,ptr bx] w fun v w'=>v = .int .i64 (pC d x)∧Ctx w [b7] w' [(b7,Bl 62 (Cf (pD d x)))]:=by
 obtain ⟨w0,rfl⟩:∃ w0,w0=w:=⟨_,rfl⟩
 have H:=Ctx.start1 h7
 have hn:bx∉[b7]:=by rw [List.mem_singleton]; exact hne
 refine A9 (fn:=Tryz.f139) Tryz.func139 rfl [.pointer (some ⟨b7,0,none⟩),.pointer (some ⟨bx,0,none⟩)] rfl (by kernel_rfl) ?_
 refine Af (Ae rfl rfl (Ab (Aa (An (Au (Af (Bb rfl Bt rfl ((H.old (Ay hx _) hn)) ?_)))))))
 refine AZ rfl rfl rfl (Ai rfl rfl (Ab (Aa (Aq _ rfl ?_ ?_))))
 ·intro h1
  replace h1:=AF h1
  refine Af (Ae rfl rfl (Ab (Aa (A8 (A1 (Al (AB (v:=(.int _ _)) rfl rfl rfl ?_)))))))
  have hp:pC d x=1:=if_pos h1
  exact ⟨by rw [hp],by unfold pD; rw [hp,if_neg (by decide)]; exact H⟩
 ·intro h1
  replace h1:=AG h1
  refine Af (A2 rfl rfl (AJ rfl rfl (Ah rfl Iy rfl (AN rfl Jf rfl H at0 rfl (Ai rfl rfl (Ab (Aa (Aq _ rfl ?_ ?_))))))))
  ·intro h2
   refine Af (Ae rfl rfl (Ab (Aa (A8 (A1 (Al (AB (v:=(.int _ _)) rfl rfl rfl ?_)))))))
   have hp:pC d x=14:=by unfold pC; rw [if_neg (by omega),if_pos h2]
   exact ⟨by rw [hp],by unfold pD; rw [hp,if_neg (by decide)]; exact H⟩
  ·intro h2
   refine DE (fun x=>x=_) B0 (by kernel_rfl) rfl ?_
   refine BR rfl Bt rfl (by rintro _ rfl; exact ((H.old (Ay hx _) hn))) ?_
   refine BS rfl rfl (Bh rfl rfl (A7 rfl Dp rfl (Cd rfl Bt rfl (by rintro _ rfl; exact H.drew) at0 rfl ?_)))
   refine PY rfl rfl rfl (Uh rfl rfl (BJ ?_))
   rintro _ rfl
   replace H:=H.drew
   refine Aq _ rfl ?_ ?_
   ·intro h3
    replace h3:=AF h3
    refine Af (Ae rfl rfl (Ab (Aa (A8 (A1 (Al (AB (v:=(.int _ _)) rfl rfl rfl ?_)))))))
    have hp:pC d x=12:=by unfold pC; rw [if_neg (by omega),if_neg (by rw [h2]; decide),if_pos h3]
    exact ⟨by rw [hp],by unfold pD; rw [hp,if_neg (by decide)]; exact H⟩
   ·intro h3
    replace h3:=AG h3
    refine Ao (A5 (Aa (DK 8 B0 (by kernel_rfl) rfl rfl ?_)))
    refine BS rfl rfl (Bh rfl rfl (A7 rfl Dp rfl (Cd rfl Bt rfl (by rintro _ rfl; exact H.drew) at0 rfl ?_)))
    refine BR rfl Bt rfl (by rintro _ rfl; exact ((H.old (Ay hx _) hn))) ?_
    refine Dq rfl rfl rfl (by omega) (by omega) ?_
    refine Bh rfl rfl (A7 rfl Dp rfl (BJ ?_))
    replace H:=H.drew
    refine Cy (.int _ _) rfl Bu rfl rfl rfl H at0 (by (simp; done)) ?_
    rintro w H
    refine Ab (Aa (Af (Ae rfl rfl (Ab (Aa (A8 (AB (v:=(.int _ _)) rfl rfl rfl ?_)))))))
    have hp:pC d x=0:=by unfold pC; rw [if_neg (by omega),if_neg (by rw [h2]; decide),if_neg (by omega)]
    exact ⟨by rw [hp],by unfold pD; rw [hp,if_pos rfl]; exact H⟩
def DC (ds:List Du) (k:Int):Option Du:=ds.find? fun d=>d.id == k
theorem JE (ds:List Du) (k:Int):Ei (dm ds) k=(DC ds k).map Gv:=by
 induction ds with
 | nil=>rfl
 | cons x ds ih =>
  unfold dm Ei DC at ih ⊢
  rw [List.map_cons,List.find?_cons,List.find?_cons]
  cases h:x.id == k with
  | true=>rfl
  | false=>exact ih
/-- The dues once x has been paid at one. -/
def FT:List Du→Int→Int→List Du
 | [],_,_=>[]
 | d::ds,k,x=>if d.id=k then (if d.am=x then ds else { d with am:=d.am - x }::ds) else d::FT ds k x
theorem WX {ds:List Du} {k x:Int} {d:Du} (h:DC ds k=some d) (hx:d.am=x):N2 (dm ds) k=dm (FT ds k x):=by
 induction ds with
 | nil=>cases h
 | cons y ds ih =>
  unfold DC at h
  rw [List.find?_cons] at h
  by_cases e:y.id=k
  ·rw [show (y.id == k)=true by simpa using e] at h
   injection h with h
   subst h
   unfold FT
   rw [if_pos e,if_pos hx]
   show (if y.id=k then dm ds else _)=_
   rw [if_pos e]
  ·rw [show (y.id == k)=false by simpa using e] at h
   unfold FT
   rw [if_neg e]
   show (if y.id=k then _ else (y.id,Gv y)::N2 (dm ds) k)=_
   rw [if_neg e,ih h]; rfl
theorem WY {ds:List Du} {k x:Int} {d:Du} (h:DC ds k=some d) (hx:¬ d.am=x):LN (dm ds) k (Gv { d with am:=d.am - x })=dm (FT ds k x):=by
 induction ds with
 | nil=>cases h
 | cons y ds ih =>
  unfold DC at h
  rw [List.find?_cons] at h
  by_cases e:y.id=k
  ·rw [show (y.id == k)=true by simpa using e] at h
   injection h with h
   subst h
   unfold FT
   rw [if_pos e,if_neg hx]
   show (if y.id=k then (k,_)::dm ds else _)=_
   rw [if_pos e,← e]; rfl
  ·rw [show (y.id == k)=false by simpa using e] at h
   unfold FT
   rw [if_neg e]
   show (if y.id=k then _ else (y.id,Gv y)::LN (dm ds) k _)=_
   rw [if_neg e,ih h]; rfl
def He (ds:List Du) (k x:Int):Int:=match DC ds k with
 | none=>11
 | some d=>pC d x
def IM (ds:List Du) (k x:Int):List Du:=if He ds k x=0 then FT ds k x else ds
def payF (bx:Nat):Value := .func (.func 139) #[] #[ptr bx]
set_option maxRecDepth 20000 in
set_option maxHeartbeats 2000000 in
theorem UK {bd b bx:Nat} {nx k x:Int} {o:Obj} {ds:List Du} (w:World) (hd:w.heap[bd]? = some (Bl 123 (DU b nx))) (hb:w.heap[b]? = some o) (hM:D8 .u64 (dm ds) o) (hbd:bd≠b) (hf:DC ds k=none) :
  Ret Tryz.prog 138 #[ptr bd,.int .u64 k,payF bx] w fun v w'=>v = .int .i64 (He ds k x)∧∃ o',D8 .u64 (dm (IM ds k x)) o'∧Ctx w [b] w' [(b,o')]:=by
 obtain ⟨w0,rfl⟩:∃ w0,w0=w:=⟨_,rfl⟩
 have H:=Ctx.start1 hb
 have hc:He ds k x=11:=by unfold He; rw [hf]
 have hmg:Ei (dm ds) k=none:=by rw [JE,hf]; rfl
 unfold IM
 rw [hc,if_neg (by decide)]
 refine A9 (fn:=Tryz.f138) Tryz.func138 rfl [.pointer (some ⟨bd,0,none⟩),.int .u64 k,.func (.func 139) #[] #[.pointer (some ⟨bx,0,none⟩)]] rfl (by kernel_rfl) ?_
 refine Af (Ae rfl rfl (Ab (Aa (An (Af (A2 rfl rfl (CK rfl K8 rfl ?_)))))))
 refine Ab (Aa (Aq _ rfl ?_ ?_))
 ·intro h0
  cases h0
 ·intro h0
  refine Ao (Aa (Af (A2 rfl rfl (AJ rfl rfl (Ah rfl EQ rfl (Bb rfl Gq rfl ((H.old (Ay hd _) (by rw [List.mem_singleton]; exact hbd))) ?_))))))
  refine Ad rfl rfl (Ja rfl GN Gx Qy rfl rfl H at0 hM ?_)
  rw [hmg]
  rw [Option.getD_none,Option.isSome_none]
  refine B9 rfl rfl (A3 rfl rfl rfl (A3 rfl rfl rfl (Bj rfl Eh H ?_)))
  rintro b7 w - H
  refine B5 rfl B2 rfl rfl rfl (by exact DM d00) H at0 rfl ?_
  rintro w H
  refine Ai rfl rfl (Ab (Aa (An (Af (Aw rfl rfl (B1 rfl rfl (Ab (Aa (Aq _ rfl ?_ ?_)))))))))
  ·intro h1
   replace h1:=Bv h1
   refine Af (Ae rfl rfl (Ab (Aa (A8 (Al (AB (v:=(.int _ _)) rfl rfl rfl ?_))))))
   exact ⟨rfl,o,hM,H.tail⟩
  ·intro h1
   replace h1:=Bw h1
   cases h1
end Go.Proofs.YtapphbmlkdhnmaaGreat

/- The dues: Pay, whole. -/
namespace Go.Proofs.YtapphbmlkdhnmaaGreat
open Go.GV
attribute [local irreducible] AL W Wq Wt

theorem Ni {ds:List Du} {k:Int} {d:Du} (h:DC ds k=some d):d∈ds∧d.id=k:=by
 have h1:=List.mem_of_find?_eq_some h
 have h2:=List.find?_some h
 exact ⟨h1,by simpa using h2⟩
theorem WZ (d:Du) (x:Int):pC d x=1∨pC d x=14∨pC d x=12∨(pC d x=0∧0≤x∧x≤d.am∧d.held=false):=by
 unfold pC
 split
 ·exact .inl rfl
 ·split
  ·exact .inr (.inl rfl)
  ·rename_i h2
   split
   ·exact .inr (.inr (.inl rfl))
   ·exact .inr (.inr (.inr ⟨rfl,by omega,by omega,by simpa using h2⟩))
set_option maxRecDepth 20000 in
set_option maxHeartbeats 4000000 in
theorem UL {bd b bx:Nat} {nx k x:Int} {o:Obj} {ds:List Du} {d:Du} (w:World) (hd:w.heap[bd]? = some (Bl 123 (DU b nx))) (hb:w.heap[b]? = some o) (hM:D8 .u64 (dm ds) o) (hbd:bd≠b) (hf:DC ds k=some d)
  (hx:w.heap[bx]? = some (Bl 2 [.int .i64 x])) (hbx:bx≠b) (ham:0≤d.am∧d.am≤4503599627370496) :
  Ret Tryz.prog 138 #[ptr bd,.int .u64 k,payF bx] w fun v w'=>v = .int .i64 (He ds k x)∧∃ o',D8 .u64 (dm (IM ds k x)) o'∧Ctx w [b] w' [(b,o')]:=by
 obtain ⟨w0,rfl⟩:∃ w0,w0=w:=⟨_,rfl⟩
 have H:=Ctx.start1 hb
 have hxl:=Bp hx
 have hc:He ds k x=pC d x:=by unfold He; rw [hf]
 have hmg:Ei (dm ds) k=some (Gv d):=by rw [JE,hf]; rfl
 have hcs:=WZ d x
 unfold IM
 rw [hc]
 obtain ⟨code,hcode⟩:∃ code,code=pC d x:=⟨_,rfl⟩
 obtain ⟨e,he⟩:∃ e,e=pD d x:=⟨_,rfl⟩
 have heam:code=0→e={ d with am:=d.am - x }:=fun h=>by rw [he]; unfold pD; rw [if_pos (by omega)]
 rw [← hcode] at hcs
 rw [← hcode]
 refine A9 (fn:=Tryz.f138) Tryz.func138 rfl [.pointer (some ⟨bd,0,none⟩),.int .u64 k,.func (.func 139) #[] #[.pointer (some ⟨bx,0,none⟩)]] rfl (by kernel_rfl) ?_
 refine Af (Ae rfl rfl (Ab (Aa (An (Af (A2 rfl rfl (CK rfl K8 rfl ?_)))))))
 refine Ab (Aa (Aq _ rfl ?_ ?_))
 ·intro h0
  cases h0
 ·intro h0
  refine Ao (Aa (Af (A2 rfl rfl (AJ rfl rfl (Ah rfl EQ rfl (Bb rfl Gq rfl ((H.old (Ay hd _) (by rw [List.mem_singleton]; exact hbd))) ?_))))))
  refine Ad rfl rfl (Ja rfl GN Gx Qy rfl rfl H at0 hM ?_)
  rw [hmg]
  rw [Option.getD_some,Option.isSome_some]
  refine B9 rfl rfl (A3 rfl rfl rfl (A3 rfl rfl rfl (Bj rfl Eh H ?_)))
  rintro b7 w - H
  refine B5 rfl B2 rfl rfl rfl (by exact DM _) H at0 rfl ?_
  rintro w H
  refine Ai rfl rfl (Ab (Aa (An (Af (Aw rfl rfl (B1 rfl rfl (Ab (Aa (Aq _ rfl ?_ ?_)))))))))
  ·intro h1
   replace h1:=Bv h1
   cases h1
  ·intro h1
   replace h1:=Bw h1
   refine Ao (Aa (Af (D0 rfl (.func _ _ _) rfl ?_)))
   have hb7:w0.heap.size≤b7:=(H.own _ (List.mem_cons_self ..)).elim (fun h=>by have h8:=H.ne at0 at1 (by decide); exact absurd (List.mem_singleton.1 h) h8) id
   refine IZ rfl rfl ZR (Y2 (x:=x) (d:=d) _ (H.get at0) (H.ext.to hx (by rw [List.mem_singleton]; exact hbx)) (by omega) ham) rfl ?_
   rintro v w ⟨rfl,H2⟩
   replace H:=Ctx.back (L1:=[_]) (L2:=[_]) H H2
   rw [← hcode]
   rw [← he] at H
   refine Ae rfl rfl (Ab (Aa (An (Au (Af (Ad rfl rfl (Cp rfl rfl rfl (Ai rfl rfl (Ab (Aa (Aq _ rfl ?_ ?_)))))))))))
   ·intro h2
    replace h2:=CY h2
    refine Ao (A5 (Aa (Af (Ad rfl rfl (Ae rfl rfl (Ab (Aa (A8 (AB (v:=(.int _ _)) rfl rfl rfl ?_)))))))))
    rw [if_neg h2]
    exact ⟨rfl,o,hM,H.tail⟩
   ·intro h2
    replace h2:=CZ h2
    have h2':code=0:=by omega
    have hee:=heam h2'
    have hea:e.am=d.am - x:=by rw [hee]
    rw [if_pos h2']
    refine Af (Ah rfl Dp rfl (AN rfl Bt rfl H at0 rfl (Cu rfl rfl rfl (Ai rfl rfl (Ab (Aa (Aq _ rfl ?_ ?_)))))))
    ·intro h3
     replace h3:=AF h3
     refine Av (A2 rfl rfl (AJ rfl rfl (Ah rfl EQ rfl (Bb rfl Gq rfl ((H.old (Ay hd _) (by rw [List.mem_singleton]; exact hbd))) ?_))))
     refine Ad rfl rfl (Up rfl GN Gx rfl rfl H at1 hM ?_)
     rintro o2 w hM2 H
     refine Ab (A5 (Aa (Af (Ad rfl rfl (Ae rfl rfl (Ab (Aa (A8 (AB (v:=(.int _ _)) rfl rfl rfl ?_)))))))))
     exact ⟨rfl,o2,by rw [← WX hf (by omega)]; exact hM2,H.tail⟩
    ·intro h3
     replace h3:=AG h3
     refine EM 6 B0 (by kernel_rfl) rfl rfl ?_
     refine BS rfl rfl (Bh rfl rfl (A7 rfl EQ rfl (BR rfl Gq rfl (by rintro _ rfl; exact ((H.old (Ay hd _) (by rw [List.mem_singleton]; exact hbd)))) ?_)))
     refine AP rfl rfl (Pc rfl E7 B2 rfl (by rintro _ rfl; exact H.drew) at0 rfl ?_)
     refine BJ ?_
     replace H:=H.drew
     refine Ks (Gv e) rfl GN Gx rfl rfl rfl H at1 hM ?_
     rintro o2 w hM2 H
     refine Ab (A5 (Aa (Af (Ad rfl rfl (Ae rfl rfl (Ab (Aa (A8 (AB (v:=(.int _ _)) rfl rfl rfl ?_)))))))))
     exact ⟨rfl,o2,by rw [← WY hf (show ¬ d.am=x by omega),← hee]; exact hM2,H.tail⟩
theorem Xa {bd b bx:Nat} {nx k x:Int} {o:Obj} {ds:List Du} (w:World) (hd:w.heap[bd]? = some (Bl 123 (DU b nx))) (hb:w.heap[b]? = some o) (hM:D8 .u64 (dm ds) o) (hbd:bd≠b)
  (hx:w.heap[bx]? = some (Bl 2 [.int .i64 x])) (hbx:bx≠b) (ham:∀ d∈ds,0≤d.am∧d.am≤4503599627370496) :
  Ret Tryz.prog 138 #[ptr bd,.int .u64 k,payF bx] w fun v w'=>v = .int .i64 (He ds k x)∧∃ o',D8 .u64 (dm (IM ds k x)) o'∧Ctx w [b] w' [(b,o')]:=by
 cases hf:DC ds k with
 | none=>exact UK w hd hb hM hbd hf
 | some d=>exact UL w hd hb hM hbd hf hx hbx (ham d (Ni hf).1)
set_option maxRecDepth 20000 in
theorem Y3 {bd b:Nat} {nx k x:Int} {o:Obj} {ds:List Du} (w:World) (hd:w.heap[bd]? = some (Bl 123 (DU b nx))) (hb:w.heap[b]? = some o) (hM:D8 .u64 (dm ds) o) (hbd:bd≠b) (ham:∀ d∈ds,0≤d.am∧d.am≤4503599627370496) :
  Ret Tryz.prog 69 #[ptr bd,.int .u64 k,.int .i64 x] w fun v w'=>v = .int .i64 (He ds k x)∧∃ o',D8 .u64 (dm (IM ds k x)) o'∧Ctx w [b] w' [(b,o')]:=by
 obtain ⟨w0,rfl⟩:∃ w0,w0=w:=⟨_,rfl⟩
 have H:=Ctx.start w0 []
 have hbl:=Bp hb
 refine A9 (fn:=Tryz.f69) Tryz.func69 rfl [.pointer (some ⟨bd,0,none⟩),.int .u64 k,.int .i64 x] rfl (by kernel_rfl) ?_
 refine Af (BC rfl _ (.int _ _) rfl rfl H ?_)
 rintro b5 w - H
 refine Ae rfl rfl (Ab (Aa (Af (A2 rfl rfl (Ad rfl rfl (Dn rfl [.pointer _] rfl ?_))))))
 have hb5:w0.heap.size≤b5:=(H.own _ (List.mem_cons_self ..)).elim (fun h=>by cases h) id
 refine Am rfl ZQ (Xa (x:=x) _ (H.ext.to hd (by simp)) (H.ext.to hb (by simp)) hM hbd (H.get at0) (by omega) ham) rfl ?_
 rintro v w ⟨rfl,o',hM',H2⟩
 refine Ae rfl rfl (Ab (Aa (A8 (AB (v:=(.int _ _)) rfl rfl rfl ?_))))
 have H3:=H.ext.mono (S':=[b]) (by simp)
 exact ⟨rfl,o',hM',⟨H3.trans H2.ext,H2.blk,H2.nd,fun y hy=>by rw [List.mem_singleton.1 hy]; exact .inl (List.mem_singleton.2 rfl)⟩⟩
end Go.Proofs.YtapphbmlkdhnmaaGreat
