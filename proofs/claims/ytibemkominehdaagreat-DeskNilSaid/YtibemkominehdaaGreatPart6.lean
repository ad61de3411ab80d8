/- Part 6 of the proof. -/
import Derived.Test.YtibemkominehdaaGreatPart2
import Derived.Test.YtibemkominehdaaGreatPart5
import Derived.Test.YtibemkominehdaaGreatPart3
import Derived.Test.YtibemkominehdaaGreatPart4
namespace Go.Proofs.YtibemkominehdaaGreat
open Go.GV
attribute [local irreducible] Al W Wq Wt
def inA (acs:List Ac) (k:Int):Bool:=decide (0≤k) && decide (k<acs.length)
def Cx (acs:List Ac) (k:Int):Ac:=if inA acs k=true then acs.getD k.toNat a00 else a00
set_option maxRecDepth 20000 in
set_option maxHeartbeats 2000000 in
theorem UP {bd:Nat} (a:Option Addr) (n c:Nat) (acs:List Ac) (k:Int) (w:World) (hd:w.heap[bd]? = some (Bl 173 [.slice a n c])) (R:Rd w a 2 Cs acs) (hn:acs.length=n) (hm:n≤1000000) :
  Ret Tryz.prog 108 #[ptr bd,.int .i64 k] w fun v w'=>v = .tuple #[.agg (Cs (Cx acs k)).toArray,.bool (inA acs k)]∧Ext [] w w':=by
 subst hn;obtain ⟨w0,rfl⟩:∃ w0,w0=w:=⟨_,rfl⟩;have H:=Ctx.start w0 [];refine Au (fn:=Tryz.f108) Tryz.func108 U [.pointer (some ⟨bd,0,none⟩),.int .i64 k] U ?_;refine Ag (B5 I8 H ?_);rintro b4 w - H;refine Am U (Ab (Aa (Ax (Ag (CK (α:=Unit) 2097088 (fun _=>[(20,.bool (!inA acs k))]) (fun _ w'=>Ctx w0 [] w' [(b4,Bl 51 (Cs a00))]) U ?_ ?_)))))
 ·refine AA U (Cg LF U ?_);refine Ap U (AZ 8 U ?_ ?_)
  ·intro h1;refine Af U (Af U (Av U (.bool _) U (Ap U (Af U (Af U (Af U (Af U (Af U (Af U ?_)))))))));refine Af U (Av U (.bool _) U (Ab ?_));exact ⟨rfl,(),rfl,⟨congrArg Value.bool (by unfold inA; rw [Bool.eq_iff_iff]; simp_all; try omega),trivial⟩,H⟩
  ·intro h2;refine Ad U (Bu U U (AE U (.bool _) U (Ap U (AZ 12 U ?_ ?_))))
   ·intro h3;replace h3:=AX h3;refine Af U (Af U (Af U (Af U (Af U (Af U (Af U (Av U (.bool _) U (Ab ?_))))))));exact ⟨rfl,(),rfl,⟨congrArg Value.bool (by unfold inA; rw [Bool.eq_iff_iff]; simp_all; try omega),trivial⟩,H⟩
   ·intro h4;replace h4:=AY h4;refine Ad U (AA U (Bb U (Ah Di U (BN EA U ((H.old0 (by rw [A6 hd]; rfl))) ?_))));refine Bp CM U (Ci U U (AE U (.bool _) U (Ab ?_)));exact ⟨rfl,(),rfl,⟨congrArg Value.bool (by unfold inA; rw [Bool.eq_iff_iff]; simp_all; try omega),trivial⟩,H⟩
 rintro - j20 w H;refine Ay _ U ?_ ?_
 ·intro h1;replace h1:=Df h1;refine Ag (Bn [.int .i64 0,.int .i64 0] V0 I8 ?_);refine BB Dj U U U (by simp [AR]) H at0 U ?_;rintro w H;refine Am U (Ab (Aa (A9 (A7 (Pg U U U KF Dj H at0 U (show _=(.bool _) from rfl) ?_)))));have h1':inA acs k=false:=by simpa using h1
  exact ⟨by unfold Cx; rw [h1',if_neg (by decide)]; rfl,H.ext⟩
 ·intro h1;replace h1:=Dg h1;have h1':inA acs k=true:=by simpa using h1
  have h2:0≤k∧k<acs.length:=by unfold inA at h1'; simpa using h1'
  obtain ⟨i,rfl⟩:∃ i:Nat,k=(i:Int):=⟨k.toNat,by omega⟩;obtain ⟨x,hx⟩:=AV (l:=acs) (i:=i);refine A2 (Aa (Ag (AA U (Bb U (Ah Di U (BN EA U ((H.old0 (by rw [A6 hd]; rfl))) ?_))))));refine Ad U (BC R CM Dj U U (by rfl) ?_);refine Em _ KF Dj U U ((R.ext0 H.ext).row hx U) ?_;refine BB Dj U U U (by exact JF _) H at0 U ?_;rintro w H;refine Am U (Ab (Aa (A9 (Pg U U U KF Dj H at0 U (show _=(.bool _) from rfl) ?_))));exact ⟨by unfold Cx; rw [h1',if_pos rfl,show ((i:Int)).toNat=i from rfl,BM hx],H.ext⟩
end Go.Proofs.YtibemkominehdaaGreat
namespace Go.Proofs.YtibemkominehdaaGreat
open Go.GV
attribute [local irreducible] Al W Wq Wt
section
variable {P:Program} {r:Option Nat} {ops rest:List Oper} {Q:Exit→Env→World→Prop} {e:Env} {w:World} {dst:Option Tmp} {ty:TypeId} {pos:String} {af:Array Edge} {g:Option (Nat × Bool)}
end
end Go.Proofs.YtibemkominehdaaGreat
namespace Go.Proofs.YtibemkominehdaaGreat
open Go.GV
attribute [local irreducible] Al W Wq Wt
def nodeR (N k:Int):Bool:=decide (0≤k) && decide (k<N)
end Go.Proofs.YtibemkominehdaaGreat
namespace Go.Proofs.YtibemkominehdaaGreat
open Go.GV
theorem Dc {xs:List Int}:(D4 xs).2=0↔(∀ x∈xs,Cr x=true)∧BO xs≤4503599627370496:=by
 unfold D4
 cases h:xs.all Cr with
 | false =>
  rw [if_pos rfl];refine ⟨fun h=>by simp at h,fun h2=>?_⟩;rw [List.all_eq_true.2 h2.1] at h; cases h
 | true =>
  rw [if_neg (by decide)];rw [List.all_eq_true] at h
  split
  ·rename_i h3; exact ⟨fun _=>⟨h,h3⟩,fun _=>rfl⟩
  ·rename_i h3; exact ⟨fun h=>by simp at h,fun h4=>absurd h4.2 h3⟩
theorem LV {ds:List Du} {nx:Int}:ofC ds nx=0↔ds.length≤64∧(1≤nx∧nx≤4611686018427387904)∧LQ nx 0 ds=true∧(D4 (ds.map (·.am))).2=0:=by
 unfold ofC
 by_cases h1:64<ds.length
 ·rw [if_pos h1]; exact ⟨fun h=>by simp at h,fun h=>absurd h.1 (by omega)⟩
 rw [if_neg h1]
 by_cases h2:1≤nx∧nx≤4611686018427387904
 ·rw [decide_eq_true h2.1,decide_eq_true h2.2,if_neg (by decide)]
  cases h3:LQ nx 0 ds with
  | false=>rw [if_pos rfl]; exact ⟨fun h=>by simp at h,fun h=>by cases h.2.2.1⟩
  | true=>rw [if_neg (by decide)]; exact ⟨fun h=>⟨by omega,h2,rfl,h⟩,fun h=>h.2.2.2⟩
 ·have:(decide (1≤nx) && decide (nx≤4611686018427387904))=false:=by
   rw [Bool.eq_false_iff]; intro h; simp only [Bool.and_eq_true,decide_eq_true_eq] at h; exact h2 h
  rw [if_pos this];exact ⟨fun h=>by simp at h,fun h=>absurd h.2.1 h2⟩
def Ev:List Du→List Int→List Du
 | [],_=>[]
 | d::ds,[]=>d::ds
 | d::ds,x::xs=>if d.held=true then d::Ev ds (x::xs) else if d.am=x then Ev ds xs else { d with am:=d.am - x }::Ev ds xs
theorem KW (ds:List Du):Ev ds []=ds:=by cases ds <;> rfl
theorem Oq {d:Du} (h:d.held=true) (ds:List Du) (xs:List Int):Ev (d::ds) xs=d::Ev ds xs:=by
 cases xs with
 | nil=>rw [KW,KW]
 | cons x xs=>show (if d.held=true then _ else _)=_; rw [if_pos h]
theorem Ot {d:Du} (h:¬ d.held=true) (ds:List Du) (x:Int) (xs:List Int):Ev (d::ds) (x::xs)=(if d.am=x then [] else [{ d with am:=d.am - x }])++Ev ds xs:=by
 show (if d.held=true then _ else _)=_;rw [if_neg h]
 split <;> rfl
theorem Nc (d:Du) (ds:List Du):opn (d::ds)=(if d.held=true then [] else [d])++opn ds:=by
 unfold opn;rw [List.filter_cons];cases d.held <;> rfl
def PayIn (os:List Du) (xs:List Int):Prop:=os.length=xs.length∧∀ (i:Nat) (d:Du) (x:Int),os[i]? = some d→xs[i]? = some x→0≤x∧x≤d.am
theorem PayIn.tail {d:Du} {x:Int} {os:List Du} {xs:List Int} (h:PayIn (d::os) (x::xs)):(0≤x∧x≤d.am)∧PayIn os xs :=
 ⟨h.2 0 d x rfl rfl,by have:=h.1; simp only [List.length_cons] at this; omega,fun i e y he hy=>h.2 (i+1) e y he hy⟩
theorem PayIn.cons {d:Du} {os:List Du} {xs:List Int} (h:PayIn (d::os) xs):∃ x xs',xs=x::xs':=by
 cases xs with
 | nil=>have:=h.1; simp at this
 | cons x xs=>exact ⟨x,xs,rfl⟩
def VB (ds:List Du):List (Du × Int)→Prop
 | []=>True
 | p::ps=>(KU ds p.1.id=some p.1∧p.1.held=false∧0≤p.2∧p.2≤p.1.am)∧VB (Q8 ds p.1.id p.2) ps
def payA (ds:List Du):List (Du × Int)→List Du
 | []=>ds
 | p::ps=>payA (Q8 ds p.1.id p.2) ps
theorem Tv {l:List Int} (h:l.Pairwise (·<·)):l.Nodup:=h.imp fun h=>by omega
theorem Tw {nx:Int} {ds:List Du} (h:ofC ds nx=0):(ds.map (·.id)).Nodup:=Tv (Oo (LV.1 h).2.2.1).2.1
theorem Fu {d:Du} (h:JE d=true):(0≤d.fr∧d.fr<16)∧(0≤d.to∧d.to<16)∧d.fr≠d.to∧(1≤d.am∧d.am≤4503599627370496)∧(1≤d.we∧d.we≤1000)∧0≤d.un:=by
 unfold JE Cr Tm at h;simp only [Bool.and_eq_true,decide_eq_true_eq,Bool.not_eq_true',decide_eq_false_iff_not] at h;exact ⟨h.1.1,h.1.2.1,h.1.2.2,⟨h.2.1,h.2.2.1.2⟩,⟨h.2.2.2.1,h.2.2.2.2.1⟩,h.2.2.2.2.2⟩
def AmOk (ds:List Du):Prop:=∀ d∈ds,0≤d.am∧d.am≤4503599627370496
end Go.Proofs.YtibemkominehdaaGreat
namespace Go.Proofs.YtibemkominehdaaGreat
open Go.GV
theorem Hg (rs:List Int) (os:List Du) (net:Bool):(Bj rs os net).length=os.length+if net=true then 0 else 2*rs.length:=by
 unfold Bj;rw [List.length_append,List.length_map]
 split
 ·rfl
 ·rw [UN]
theorem Hh {rs:List Int} {os:List Du} {net:Bool} {i:Nat} {d:Du} (h:os[i]? = some d):(Bj rs os net)[i]? = some (JG d):=by
 unfold Bj;have hl:=Dn h;rw [List.getElem?_append_left (by rw [List.length_map]; exact hl),List.getElem?_map,h]; rfl
theorem Gt {rs:List Int} {os:List Du} {j:Nat} {e:Ed} (h:(JH rs)[j]? = some e):(Bj rs os false)[os.length+j]? = some e:=by
 unfold Bj;rw [List.getElem?_append_right (by rw [List.length_map]; omega),List.length_map,show os.length+j - os.length=j by omega,if_neg (by decide),h]
def PH (n:Nat) (d:Du):Prop:=JE d=true∧d.fr<n∧d.to<n
theorem KX {n:Nat}:∀ {os:List Du},(∀ d∈os,PH n d)→((((os.map JG).map JA).sum:Nat):Int)≤1000*BO (os.map Du.am)
 | [],_=>by show (0:Int)≤1000*0; omega
 | d::os,h=>by
  have ih:=KX (os:=os) fun e he=>h e (List.mem_cons_of_mem _ he);have hm:=Fu (h d (List.mem_cons_self ..)).1;rw [List.map_cons,List.map_cons,List.sum_cons,List.map_cons,BX];have h1:JA (JG d)≤d.am.toNat*1000:=Nat.mul_le_mul_left _ (by show (-d.we).natAbs≤1000; omega);have h2:((d.am.toNat:Nat):Int)=d.am:=Int.toNat_of_nonneg (by omega);have h3:((JA (JG d):Nat):Int)≤d.am*1000:=by omega
  rw [Int.natCast_add,Int.mul_add]; omega
theorem Q9 {rs:List Int} {os:List Du} {net:Bool} (hn:rs.length≤16) (hm:os.length≤64) (hrs:∀ x∈rs,Cr x=true) (hos:∀ d∈os,PH rs.length d) (hsum:BO (os.map Du.am)≤4503599627370496):D0 ((rs.length+1:Nat):Int) (Bj rs os net)=true:=by
 have hl:=Hg rs os net;have hE:(Bj rs os net).length≤200:=by rw [hl]; split <;> omega
 have hall:(Bj rs os net).all (J9 ((rs.length+1:Nat):Int))=true:=by
  rw [List.all_eq_true];intro e he;unfold Bj at he
  rcases List.mem_append.1 he with he | he
  ·obtain ⟨d,hd,rfl⟩:=List.mem_map.1 he;obtain ⟨h1,h2,h3⟩:=hos d hd;have:=Fu h1;unfold J9 MV JG;simp only [Bool.and_eq_true,decide_eq_true_eq];omega
  ·split at he
   ·cases he
   ·unfold JH at he;obtain ⟨j,hj,rfl⟩:=List.mem_map.1 he;rw [List.mem_range] at hj;obtain ⟨r,hr⟩:=AV (l:=rs) (i:=j / 2);have hr2:=Cd.1 (hrs r (List.mem_of_getElem? hr));unfold J9 MV;rw [BM hr]
    split
    ·simp only [Bool.and_eq_true,decide_eq_true_eq]; omega
    ·simp only [Bool.and_eq_true,decide_eq_true_eq]; omega
 have hp:P7 (Bj rs os net)≤4611686018427387904:=by
  unfold P7 Bj;rw [List.map_append,List.sum_append];have h1:=KX hos
  have h2:((if net=true then [] else JH rs).map JA).sum=0:=by
   split
   ·rfl
   ·unfold JH;rw [List.map_map]
    have:∀ l:List Nat,(l.map (JA ∘ fun j=>if j % 2=0 then (⟨rs.length,(j / 2:Nat),rs.getD (j / 2) 0,0⟩:Ed) else ⟨(j / 2:Nat),rs.length,4503599627370496,0⟩)).sum=0:=by
     intro l
     induction l with
     | nil=>rfl
     | cons j l ih =>
      rw [List.map_cons,List.sum_cons,ih];show JA (if j % 2=0 then _ else _)+0=0
      split <;> rfl
    exact this _
  rw [h2]; omega
 unfold D0;rw [hall,decide_eq_true hE,decide_eq_true hp,decide_eq_true (show (1:Int)≤((rs.length+1:Nat):Int) by omega),decide_eq_true (show ((rs.length+1:Nat):Int)≤40 by omega)]; rfl
theorem JJ {g:Gr} {x:Nat→Int} {n m:Nat} (hE:∀ k,k<n→(g.f (m+2*k)=n∧g.t (m+2*k)=k)∧g.f (m+2*k+1)=k∧g.t (m+2*k+1)=n) {v:Nat} (hv:v<n):∀ j,j≤n→DW g x (m+2*j) v=DW g x m v+if v<j then x (m+2*v) - x (m+2*v+1) else 0
 | 0,_=>by rw [if_neg (by omega)]; simp
 | j+1,hj=>by
  obtain ⟨⟨h1,h2⟩,h3,h4⟩:=hE j (by omega);rw [show m+2*(j+1)=m+2*j+1+1 by omega,EX,EX,h1,h2,h3,h4,JJ hE hv j (by omega),P9 (show ¬ n=v by omega)]
  by_cases e:j=v
  ·subst e;rw [SQ rfl,if_neg (by omega),if_pos (by omega)]; omega
  ·rw [P9 e]
   by_cases h:v<j
   ·rw [if_pos h,if_pos (by omega)]; omega
   ·rw [if_neg h,if_neg (by omega)]; omega
theorem Ou {N:Int} {es:List Ed} {i:Nat} {e:Ed} (h:es[i]? = some e):(grE N es).f i=e.f.toNat:=by show (es.getD i e0).f.toNat=_; rw [BM h]
theorem Ov {N:Int} {es:List Ed} {i:Nat} {e:Ed} (h:es[i]? = some e):(grE N es).t i=e.t.toNat:=by show (es.getD i e0).t.toNat=_; rw [BM h]
theorem Nd {N:Int} {es:List Ed} {i:Nat} {e:Ed} (h:es[i]? = some e):(grE N es).co i=e.cost:=by show (es.getD i e0).cost=_; rw [BM h]
def byK (rs:List Int) (os:List Du) (net:Bool) (fl:List Int) (k:Nat):Int:=DW (grE ((rs.length+1:Nat):Int) (Bj rs os net)) (flE fl) os.length k
theorem Tx {rs:List Int} {os:List Du} {net:Bool} {fl:List Int} (hrs:∀ x∈rs,0≤x) (hos:∀ d∈os,PH rs.length d) (hf:HS ((rs.length+1:Nat):Int) (Bj rs os net) fl=true) :
  PayIn os (fl.take os.length)∧fl.length=(Bj rs os net).length∧(∀ (k:Nat) (r:Int),rs[k]? = some r→(net=true→byK rs os net fl k=0) ∧ -r≤byK rs os net fl k∧byK rs os net fl k≤4503599627370496)∧Bf (byK rs os net fl) rs.length=0:=by
 obtain ⟨hw,hz⟩:=EY hf;obtain ⟨hl,hr,hin⟩:=D9 hw;have hlen:=Hg rs os net;refine ⟨⟨by rw [List.length_take]; omega,fun i d x hd hx=>?_⟩,hl,fun k r hk=>?_,?_⟩
 ·have hi:=Dn hd;rw [List.getElem?_take,if_pos hi] at hx;exact hin i (JG d) x (Hh hd) hx
 ·have hkn:=Dn hk;have h0:=hz k (by omega);have hE:(grE ((rs.length+1:Nat):Int) (Bj rs os net)).E=(Bj rs os net).length:=rfl;unfold CA at h0;rw [hE,hlen] at h0;have hr0:=hrs r (List.mem_of_getElem? hk)
  cases net with
  | true =>
   rw [if_pos rfl,Nat.add_zero] at h0;have h0':byK rs os true fl k=0:=h0;exact ⟨fun _=>h0',by omega,by omega⟩
  | false =>
   rw [if_neg (by decide),JJ (x:=flE fl) (n:=rs.length) (fun j hj=>?_) hkn rs.length (Nat.le_refl _),if_pos hkn] at h0
   ·obtain ⟨y,hy⟩:=AV (l:=fl) (i:=os.length+2*k) (h:=by rw [hl,hlen,if_neg (by decide)]; omega);obtain ⟨z,hzz⟩:=AV (l:=fl) (i:=os.length+2*k+1) (h:=by rw [hl,hlen,if_neg (by decide)]; omega);have h1:=hin _ _ y (Gt (JI hk)) hy;have h2:=hin _ _ z (by rw [Nat.add_assoc]; exact Gt (LU hkn)) hzz;rw [show flE fl (os.length+2*k)=y from BM hy,show flE fl (os.length+2*k+1)=z from BM hzz] at h0;have h0':byK rs os false fl k+(y - z)=0:=h0;dsimp only at h1 h2;exact ⟨(fun h=>by cases h),by omega,by omega⟩
   ·obtain ⟨r',hr'⟩:=AV (h:=hj);have e1:(Bj rs os false)[os.length+2*j]? = _:=Gt (JI hr');have e2:(Bj rs os false)[os.length+2*j+1]? = some ⟨j,rs.length,4503599627370496,0⟩:=by rw [Nat.add_assoc]; exact Gt (LU hj)
    rw [Ou e1,Ov e1,Ou e2,Ov e2];dsimp only;omega
 ·have:=GM ⟨rs.length,os.length,(grE ((rs.length+1:Nat):Int) (Bj rs os net)).f,(grE ((rs.length+1:Nat):Int) (Bj rs os net)).t,fun _=>0⟩ ⟨fun i hi=>?_,fun i hi=>?_⟩ (flE fl)
  ·exact this
  ·obtain ⟨d,hd⟩:=AV (l:=os) (i:=i) (h:=hi);obtain ⟨h1,h2,h3⟩:=hos d (List.mem_of_getElem? hd);have:=Fu h1;dsimp only;rw [Ou (Hh hd)];unfold JG;dsimp only;omega
  ·obtain ⟨d,hd⟩:=AV (l:=os) (i:=i) (h:=hi);obtain ⟨h1,h2,h3⟩:=hos d (List.mem_of_getElem? hd);have:=Fu h1;dsimp only;rw [Ov (Hh hd)];unfold JG;dsimp only;omega
theorem Ty {xs:List Int} (h:∀ x∈xs,0≤x):∀ x∈xs,x≤BO xs:=by
 induction xs with
 | nil=>intro x hx; cases hx
 | cons y xs ih =>
  intro x hx;rw [BX];have h0:=h y (List.mem_cons_self ..);have h1:=FV fun z hz=>h z (List.mem_cons_of_mem _ hz)
  rcases List.mem_cons.1 hx with rfl | hx
  ·omega
  ·have:=ih (fun z hz=>h z (List.mem_cons_of_mem _ hz)) x hx;omega
theorem CU {acs:List Ac}:FE acs=0↔acs.length≤16∧(∀ a∈acs,KT a=true)∧(D4 (acs.map Ac.ba)).2=0:=by
 unfold FE
 by_cases h1:16<acs.length
 ·rw [if_pos h1]; exact ⟨fun h=>by simp at h,fun h=>absurd h.1 (by omega)⟩
 rw [if_neg h1]
 cases h2:acs.all KT with
 | false =>
  rw [if_pos rfl];refine ⟨fun h=>by simp at h,fun h=>?_⟩;rw [List.all_eq_true.2 h.2.1] at h2; cases h2
 | true =>
  rw [if_neg (by decide)];rw [List.all_eq_true] at h2;exact ⟨fun h=>⟨by omega,h2,h⟩,fun h=>h.2.2⟩
theorem EZ {a:Ac}:KT a=true↔(0≤a.ba∧a.ba≤4503599627370496)∧0≤a.re∧a.re≤4503599627370496:=by
 unfold KT; rw [Bool.and_eq_true,Cd,Cd]
structure Bright (rs:List Int) (ds:List Du):Prop where
 n16:rs.length≤16
 may:∀ x∈rs,Cr x=true
 m64:ds.length≤64
 due:∀ d∈ds,PH rs.length d
 tot:BO (ds.map Du.am)≤4503599627370496
theorem UQ {ds:List Du} {d:Du} (h:d∈opn ds):d∈ds∧d.held=false:=by
 unfold opn at h;rw [List.mem_filter] at h;exact ⟨h.1,by simpa using h.2⟩
theorem UR (ds:List Du):(opn ds).length≤ds.length:=List.length_filter_le _ _
theorem US {ds:List Du} (h:∀ d∈ds,0≤d.am):BO ((opn ds).map Du.am)≤BO (ds.map Du.am):=by
 induction ds with
 | nil=>exact Int.le_refl _
 | cons d ds ih =>
  have h0:=h d (List.mem_cons_self ..);have ih:=ih fun e he=>h e (List.mem_cons_of_mem _ he);rw [Nc,List.map_cons,BX]
  split
  ·rw [List.nil_append]; omega
  ·show BO (d.am::(opn ds).map Du.am)≤_;rw [BX]; omega
theorem Bright.open' {rs:List Int} {ds:List Du} (h:Bright rs ds):Bright rs (opn ds) :=
 ⟨h.n16,h.may,Nat.le_trans (UR ds) h.m64,fun d hd=>h.due d (UQ hd).1,Int.le_trans (US fun d hd=>by have:=(Fu (h.due d hd).1).2.2.2.1; omega) h.tot⟩
theorem Bright.right {rs:List Int} {ds:List Du} (h:Bright rs ds) (net:Bool):D0 ((rs.length+1:Nat):Int) (Bj rs (opn ds) net)=true :=
 Q9 h.n16 h.open'.m64 h.may h.open'.due h.open'.tot
end Go.Proofs.YtibemkominehdaaGreat
namespace Go.Proofs.YtibemkominehdaaGreat
open Go.GV
attribute [local irreducible] Al W Wq Wt
def RoundRes (w:World) (rs:List Int) (ds:List Du) (net:Bool) (v:Value) (w':World):Prop :=
 Ext [] w w'∧((Ft rs ds=false∧v = .tuple #[Qs 0 none 0 0,.slice none 0 0,.int .i64 1]) ∨
  (Ft rs ds=true∧∃ aE nE cE vI,v = .tuple #[Qs ((rs.length+1:Nat):Int) aE nE cE,vI,.int .i64 0]∧Sl w w' (.slice aE nE cE) 4 DI (Bj rs (opn ds) net)∧Sl w w' vI 1 U1 ((opn ds).map Du.id)))
def rndJ (ws:World) (b6:Nat) (N:Int) (es:List Ed) (i:Nat) (M:Mt) (w:World):Prop :=
 ∃ a c full,(M=fun y=>y∈((b6,Bl 75 [.int .i64 N,.slice a i c])::ent a 205 full).map (·.1))∧Ctx ws [b6] w ((b6,Bl 75 [.int .i64 N,.slice a i c])::ent a 205 full) ∧
  OS a i c 4 full ((es.take i).flatMap DI)∧∀ y∈((b6,Bl 75 [.int .i64 N,.slice a i c])::ent a 205 full).map (·.1),y≠ws.heap.size∧y≠ws.heap.size+1
end Go.Proofs.YtibemkominehdaaGreat
namespace Go.Proofs.YtibemkominehdaaGreat
open Go.GV
attribute [local irreducible] Al W Wq Wt
end Go.Proofs.YtibemkominehdaaGreat
namespace Go.Proofs.YtibemkominehdaaGreat
open Go.GV
attribute [local irreducible] Al W Wq Wt
def ovI (g:Gr) (x:Nat→Int) (v i q:Nat):Int:=if q<v then CA g x q else if q=v then DW g x i v else 0
end Go.Proofs.YtibemkominehdaaGreat
namespace Go.Proofs.YtibemkominehdaaGreat
open Go.GV
attribute [local irreducible] Al W Wq Wt
end Go.Proofs.YtibemkominehdaaGreat
namespace Go.Proofs.YtibemkominehdaaGreat
open Go.GV
attribute [local irreducible] Al W Wq Wt
structure LS2 where
 i:Nat
 a:Option Addr
 c:Nat
 f:List Value
 a2:Option Addr
 c2:Nat
 f2:List Value
end Go.Proofs.YtibemkominehdaaGreat
namespace Go.Proofs.YtibemkominehdaaGreat
open Go.GV
attribute [local irreducible] Al W Wq Wt
structure PSt where
 j:Nat
 full:List Value
 x:Nat→Int
 p:Nat→Int
 ov:Nat→Int
 kk:Int
structure FSt where
 x:Nat→Int
 p:Nat→Int
 ov:Nat→Int
 kk:Int
end Go.Proofs.YtibemkominehdaaGreat
namespace Go.Proofs.YtibemkominehdaaGreat
open Go.GV
attribute [local irreducible] Al W Wq Wt
theorem PJ {N:Int} {es:List Ed} {pot:List Int} (hr:D0 N es=true) {k:Nat} (hk:k<2*es.length):lenI N es pot (k:Int)=(grE N es).len (MY pot) k:=by
 obtain ⟨e,he,hE,-⟩:=UG hr hk;unfold lenI Gr.len Gr.c Gr.u Gr.v;rw [hE];unfold Kk
 rcases Nat.mod_two_eq_zero_or_one k with h | h
 ·rw [if_pos h,if_pos h,if_pos h,Nd he,Ou he,Ov he,if_neg (by omega)]; rfl
 ·rw [if_pos h,if_neg (show ¬ k % 2=0 by omega),if_neg (show ¬ k % 2=0 by omega),if_neg (show ¬ k % 2=0 by omega),Nd he,Ou he,Ov he]; rfl
theorem Nf {N:Int} {es:List Ed} {fl:List Int} (hw:Ec N es fl=true) {k:Nat} (hk:k<2*es.length):P8 N es fl (k:Int)=EU (JB es) (flE fl) k:=by
 obtain ⟨e,x,he,hx,hro,-⟩:=UH hw hk;rw [hro];unfold SP EU JB flE;rw [BM he,BM hx]
 rcases Nat.mod_two_eq_zero_or_one k with h | h
 ·rw [if_neg (by omega),if_pos h]
 ·rw [if_pos h,if_neg (by omega)]
theorem HX {N:Int} {es:List Ed} {fl pot:List Int}:HT N es fl pot=true↔HS N es fl=true∧Qu N pot=true∧Fine (grE N es) (JB es) (flE fl) (MY pot):=by
 have hE:(grE N es).E=es.length:=rfl;unfold HT;simp only [Bool.and_eq_true];constructor
 ·rintro ⟨hr,hf,hp,ht⟩;have hw:=(EY hf).1;obtain ⟨hl,-,hin⟩:=D9 hw;refine ⟨hf,hp,fun i hi=>?_,fun a ha hro=>?_⟩
  ·rw [hE] at hi;obtain ⟨e,he⟩:=AV (h:=hi);obtain ⟨x,hx⟩:=AV (l:=fl) (i:=i);unfold flE JB;rw [BM he,BM hx];exact hin i e x he hx
  ·rw [hE] at ha;have h1:=List.all_eq_true.1 ht a (List.mem_range.2 ha);unfold Oa at h1;rw [PJ hr ha,Nf hw ha,decide_eq_true hro,Bool.and_true,Bool.not_eq_true',decide_eq_false_iff_not] at h1;omega
 ·rintro ⟨hf,hp,hF⟩;have hw:=(EY hf).1;obtain ⟨hl,hr,hin⟩:=D9 hw;refine ⟨hr,hf,hp,List.all_eq_true.2 fun a ha=>?_⟩;rw [List.mem_range] at ha;unfold Oa;rw [PJ hr ha,Nf hw ha,Bool.not_eq_true']
  by_cases h:0<EU (JB es) (flE fl) a
  ·rw [decide_eq_false (by have:=hF.fit a ha h; omega),Bool.false_and]
  ·rw [decide_eq_false h,Bool.and_false]
theorem Tz {ds es:List Du} (h:Tk ds es) (hs:(es.map (·.id)).Pairwise (·<·)):ds=es:=by
 obtain ⟨hp,hd⟩:=h
 induction es generalizing ds with
 | nil=>exact hp.eq_nil
 | cons e es ih =>
  cases ds with
  | nil=>exact absurd hp.symm.eq_nil (by simp)
  | cons d ds =>
   rw [List.map_cons,List.pairwise_cons] at hs hd
   have hde:d=e:=by
    rcases List.mem_cons.1 (hp.mem_iff.1 (List.mem_cons_self ..)) with h | h
    ·exact h
    ·rcases List.mem_cons.1 (hp.mem_iff.2 (List.mem_cons_self ..)) with h2 | h2
     ·exact h2.symm
     ·have h3:=hs.1 d.id (List.mem_map_of_mem (f:=fun d:Du=>d.id) h);have h4:=hd.1 e.id (List.mem_map_of_mem (f:=fun d:Du=>d.id) h2);omega
   subst hde;rw [ih hs.2 (List.Perm.cons_inv hp) hd.2]
structure Rnd where
 no:Int
 day:Int
 cmp:Bool
 ids:List Int
 N:Int
 es:List Ed
 fl:List Int
 pot:List Int
structure RSl where
 aI:Option Addr
 cI:Nat
 aE:Option Addr
 cE:Nat
 aF:Option Addr
 cF:Nat
 aP:Option Addr
 cP:Nat
abbrev BL (r:Rnd) (q:RSl):List Value:=[.int .u64 r.no,.int .i64 r.day,.bool r.cmp,.slice q.aI r.ids.length q.cI,.int .i64 r.N,.slice q.aE r.es.length q.cE,.slice q.aF r.fl.length q.cF,.slice q.aP r.pot.length q.cP]
structure RAt (w:World) (r:Rnd) (q:RSl):Prop where
 I:Rd w q.aI 1 U1 r.ids
 E:Rd w q.aE 4 DI r.es
 F:Rd w q.aF 1 I1 r.fl
 P:Rd w q.aP 1 I1 r.pot
 fc:r.fl.length≤q.cF
structure ROff (q:RSl) (r:Rnd) (S:Nat→Prop):Prop where
 I:r.ids≠[]→¬ S (adr q.aI).block
 E:r.es≠[]→¬ S (adr q.aE).block
 F:r.fl≠[]→¬ S (adr q.aF).block
 P:r.pot≠[]→¬ S (adr q.aP).block
theorem RAt.ext {w w':World} {r:Rnd} {q:RSl} {S:List Nat} (h:RAt w r q) (he:Ext S w w') (hn:ROff q r (·∈S)):RAt w' r q :=
 ⟨h.I.ext' he hn.I,h.E.ext' he hn.E,h.F.ext' he hn.F,h.P.ext' he hn.P,h.fc⟩
theorem RAt.ext0 {w w':World} {r:Rnd} {q:RSl} (h:RAt w r q) (he:Ext [] w w'):RAt w' r q:=h.ext he ⟨fun _=>by simp,fun _=>by simp,fun _=>by simp,fun _=>by simp⟩
theorem ROff.mono {q:RSl} {r:Rnd} {S S':Nat→Prop} (h:ROff q r S) (hs:∀ x,S' x→S x):ROff q r S':=⟨fun g k=>h.I g (hs _ k),fun g k=>h.E g (hs _ k),fun g k=>h.F g (hs _ k),fun g k=>h.P g (hs _ k)⟩
theorem RAt.lt {w:World} {r:Rnd} {q:RSl} (h:RAt w r q):ROff q r (fun x=>w.heap.size≤x) :=
 ⟨fun g=>Nat.not_le.2 (h.I.lt' (fun _ _=>rfl) (by decide) g),fun g=>Nat.not_le.2 (h.E.lt' (fun _ _=>rfl) (by decide) g),fun g=>Nat.not_le.2 (h.F.lt' (fun _ _=>rfl) (by decide) g),fun g=>Nat.not_le.2 (h.P.lt' (fun _ _=>rfl) (by decide) g)⟩
def AcAt (w:World) (t:TypeId) (bx:Nat) (acs:List Ac):Prop:=∃ a c,w.heap[bx]? = some (Bl t [.slice a acs.length c])∧Rd w a 2 Cs acs
def DuAt (w:World) (bd:Nat) (ds:List Du):Prop:=∃ b nx o,w.heap[bd]? = some (Bl 176 (DU b nx))∧w.heap[b]? = some o∧EG .u64 (dm ds) o
theorem AcAt.ext0 {w w':World} {t:TypeId} {bx:Nat} {acs:List Ac} (h:AcAt w t bx acs) (he:Ext [] w w'):AcAt w' t bx acs:=by
 obtain ⟨a,c,h1,h2⟩:=h;exact ⟨a,c,he.to h1 (by simp),h2.ext0 he⟩
theorem DuAt.ext0 {w w':World} {bd:Nat} {ds:List Du} (h:DuAt w bd ds) (he:Ext [] w w'):DuAt w' bd ds:=by
 obtain ⟨b,nx,o,h1,h2,h3⟩:=h;exact ⟨b,nx,o,he.to h1 (by simp),he.to h2 (by simp),h3⟩
end Go.Proofs.YtibemkominehdaaGreat
namespace Go.Proofs.YtibemkominehdaaGreat
open Go.GV
attribute [local irreducible] Al W Wq Wt
structure PlanR (acs:List Ac) (ds:List Du) (net:Bool) (r:Rnd):Prop where
 no:r.no=0
 day:r.day=0
 cmp:r.cmp=net
 ids:r.ids=(opn ds).map Du.id
 N:r.N=((acs.length+1:Nat):Int)
 es:r.es=Bj (acs.map EB) (opn ds) net
 chk:HT r.N r.es r.fl r.pot=true
def rnd0:List Value:=[.int .u64 0,.int .i64 0,.bool false,.slice none 0 0,.int .i64 0,.slice none 0 0,.slice none 0 0,.slice none 0 0]
def PlanRes (w:World) (acs:List Ac) (ds:List Du) (net:Bool) (v:Value) (w':World):Prop :=
 Ext [] w w'∧((Ft (acs.map EB) ds=false∧v = .tuple #[.agg rnd0.toArray,.int .i64 1]) ∨
  (Ft (acs.map EB) ds=true∧∃ r q,v = .tuple #[.agg (BL r q).toArray,.int .i64 0]∧PlanR acs ds net r∧RAt w' r q∧ROff q r (fun x=>x<w.heap.size)))
end Go.Proofs.YtibemkominehdaaGreat
namespace Go.Proofs.YtibemkominehdaaGreat
open Go.GV
attribute [local irreducible] Al W Wq Wt
def WR (w:World) (rs:List Int) (ds:List Du) (net:Bool) (N:Int) (aE:Option Addr) (nE:Nat) (vI:Value) (code:Int):Prop :=
 (Ft rs ds=false∧code=1∧∃ aI nI cI,vI = .slice aI nI cI)∨(Ft rs ds=true∧code=0∧N=((rs.length+1:Nat):Int)∧nE=(Bj rs (opn ds) net).length∧Rd w aE 4 DI (Bj rs (opn ds) net)∧∃ aI cI,vI = .slice aI ((opn ds).map Du.id).length cI∧Rd w aI 1 U1 ((opn ds).map Du.id))
structure NowZ where
 b:Nat
 N:Int
 aE:Option Addr
 nE:Nat
 cE:Nat
 aI:Option Addr
 nI:Nat
 cI:Nat
 code:Int
def NowI (w0:World) (rs:List Int) (ds:List Du) (net:Bool) (b5:Nat) (o5:Obj) (z:NowZ) (w:World):Prop :=
 Ext [] w0 w∧w.heap[b5]? = some o5∧w.heap[z.b]? = some (Bl 75 [.int .i64 z.N,.slice z.aE z.nE z.cE])∧WR w rs ds net z.N z.aE z.nE (.slice z.aI z.nI z.cI) z.code
def nowB (acs:List Ac) (ds:List Du) (r:Rnd):Bool :=
 Ft (acs.map EB) ds && (decide (((acs.length+1:Nat):Int)=r.N) && (decide (Bj (acs.map EB) (opn ds) r.cmp=r.es) && decide ((opn ds).map Du.id=r.ids)))
end Go.Proofs.YtibemkominehdaaGreat
namespace Go.Proofs.YtibemkominehdaaGreat
open Go.GV
attribute [local irreducible] Al W Wq Wt
end Go.Proofs.YtibemkominehdaaGreat
namespace Go.Proofs.YtibemkominehdaaGreat
open Go.GV
attribute [local irreducible] Al W Wq Wt
theorem CB {w:World} {b:Nat} {t:TypeId} {l:List Value} (h:w.heap[b]? = some (Bl t l)) (o:Nat) (l':List Value) (hl:(l.drop o).take l'.length=l'):∀ j v,l'[j]? = some v→w.cell? ⟨b,o+j,none⟩=some v:=fun j v hv=>by
 rw [A6 h];have hj:=Dn hv;rw [← hl,List.getElem?_take,if_pos hj,List.getElem?_drop] at hv;exact hv
theorem ROff.or {q:RSl} {r:Rnd} {S T:Nat→Prop} (h:ROff q r S) (k:ROff q r T):ROff q r (fun x=>S x∨T x) :=
 ⟨fun g x=>x.elim (h.I g) (k.I g),fun g x=>x.elim (h.E g) (k.E g),fun g x=>x.elim (h.F g) (k.F g),fun g x=>x.elim (h.P g) (k.P g)⟩
structure ApF (acs:List Ac) (ds:List Du) (r:Rnd):Prop where
 B:Bright (acs.map EB) ds
 N:r.N=(((acs.map EB).length+1:Nat):Int)
 es:r.es=Bj (acs.map EB) (opn ds) r.cmp
 ids:r.ids=(opn ds).map Du.id
 pay:PayIn (opn ds) (r.fl.take (opn ds).length)
 len:r.fl.length=r.es.length
 by':∀ (k:Nat) (a:Ac),acs[k]? = some a→(r.cmp=true→byK (acs.map EB) (opn ds) r.cmp r.fl k=0) ∧ -(EB a)≤byK (acs.map EB) (opn ds) r.cmp r.fl k∧byK (acs.map EB) (opn ds) r.cmp r.fl k≤4503599627370496
 sum:Bf (byK (acs.map EB) (opn ds) r.cmp r.fl) acs.length=0
 ok:VB ds ((opn ds).zip (r.fl.take (opn ds).length))
 all:payA ds ((opn ds).zip (r.fl.take (opn ds).length))=Ev ds (r.fl.take (opn ds).length)
def T1 (acs:List Ac) (ds:List Du) (r:Rnd):Int:=if HT r.N r.es r.fl r.pot=false then 1 else if nowB acs ds r=false then 3 else 0
def WS (acs:List Ac) (ds:List Du) (r:Rnd):List Ac:=if T1 acs ds r=0 then shA acs (tab (byK (acs.map EB) (opn ds) r.cmp r.fl) acs.length) else acs
def WT (acs:List Ac) (ds:List Du) (r:Rnd):List Du:=if T1 acs ds r=0 then Ev ds (r.fl.take (opn ds).length) else ds
abbrev LX (bx:Nat) (a:Option Addr) (n c:Nat) (full:List Value) (bd b:Nat) (nx:Int) (o:Obj):List (Nat × Obj):=(bx,Bl 173 [.slice a n c])::(bd,Bl 176 (DU b nx))::(b,o)::ent a 51 full
structure AP7 where
 i:Nat
 o:Obj
end Go.Proofs.YtibemkominehdaaGreat
namespace Go.Proofs.YtibemkominehdaaGreat
open Go.GV
attribute [local irreducible] Al W Wq Wt
def plc (k:Nat) (d:Du):Int:=one (d.to=(k:Int)) - one (d.fr=(k:Int))
theorem HY {p q:Prop} [Decidable p] [Decidable q] (h:p↔q):one p=one q:=by
 by_cases hp:p
 ·rw [SQ hp,SQ (h.1 hp)]
 ·rw [P9 hp,P9 (fun hq=>hp (h.2 hq))]
def WU (acs:List Ac) (ds:List Du) (k:Nat):Int:=(acs.getD k a00).ba+BO (ds.map fun d=>plc k d*d.am)
theorem Hi:∀ {ds:List Du} {xs:List Int} {e:Du},e∈Ev ds xs→∃ d∈ds,e.id=d.id
 | [],_,_,h=>by cases h
 | d::ds,[],e,h=>⟨e,h,rfl⟩
 | d::ds,x::xs,e,h=>by
  unfold Ev at h
  split at h
  ·rcases List.mem_cons.1 h with rfl | h
   ·exact ⟨_,List.mem_cons_self ..,rfl⟩
   ·obtain ⟨d',h1,h2⟩:=Hi h;exact ⟨d',List.mem_cons_of_mem _ h1,h2⟩
  ·split at h
   ·obtain ⟨d',h1,h2⟩:=Hi h;exact ⟨d',List.mem_cons_of_mem _ h1,h2⟩
   ·rcases List.mem_cons.1 h with rfl | h
    ·exact ⟨d,List.mem_cons_self ..,rfl⟩
    ·obtain ⟨d',h1,h2⟩:=Hi h;exact ⟨d',List.mem_cons_of_mem _ h1,h2⟩
def MgI (ds left:List Du) (i j:Nat):Prop:=j≤left.length∧∃ xs,PayIn (opn (ds.drop i)) xs∧left.drop j=Ev (ds.drop i) xs
theorem MgI.start {ds:List Du} {xs:List Int} (h:PayIn (opn ds) xs):MgI ds (Ev ds xs) 0 0:=⟨Nat.zero_le _,xs,h,rfl⟩
theorem Fv {α:Type} {l:List α} {i:Nat} {x:α} (h:l[i]? = some x):l.drop i=x::l.drop (i+1):=by
 obtain ⟨h1,rfl⟩:=List.getElem?_eq_some_iff.1 h;exact List.drop_eq_getElem_cons h1
theorem KY {α:Type} {l m:List α} {j:Nat} {x:α} (h:l.drop j=x::m):l[j]? = some x∧l.drop (j+1)=m:=by
 have h1:(l.drop j)[0]? = some x:=by rw [h]; rfl
 rw [List.getElem?_drop,Nat.add_zero] at h1;refine ⟨h1,?_⟩;rw [Fv h1] at h;injection h
theorem MgI.step {ds left:List Du} {i j:Nat} {d:Du} (hs:(ds.map (·.id)).Pairwise (·<·)) (h:MgI ds left i j) (hd:ds[i]? = some d) (hp:1≤d.am) :
  (∃ e,left[j]? = some e∧e.id=d.id∧e.am≤d.am∧1≤e.am∧(d.held=true→e=d)∧MgI ds left (i+1) (j+1)) ∨
  (d.held=false∧(∀ e,left[j]? = some e→e.id≠d.id)∧MgI ds left (i+1) j):=by
 obtain ⟨hj,xs,hP,hl⟩:=h;rw [Fv hd] at hP hl;rw [Nc] at hP
 by_cases hh:d.held=true
 ·rw [if_pos hh] at hP
  have hl':left.drop j=d::Ev (ds.drop (i+1)) xs:=by
   rw [hl]; exact Oq hh _ _
  obtain ⟨g1,g2⟩:=KY hl';exact .inl ⟨d,g1,rfl,Int.le_refl _,hp,fun _=>rfl,Dn g1,xs,hP,g2⟩
 ·rw [if_neg hh] at hP;obtain ⟨x,xs,rfl⟩:=PayIn.cons hP;obtain ⟨⟨h0,h1⟩,hP⟩:=PayIn.tail hP;rw [Ot hh] at hl
  by_cases hx:d.am=x
  ·rw [if_pos hx,List.nil_append] at hl;refine .inr ⟨by simpa using hh,fun e he hid=>?_,hj,xs,hP,hl⟩;have h3:=Fv he;rw [hl] at h3;obtain ⟨d',hd',hid'⟩:=Hi (e:=e) (by rw [h3]; exact List.mem_cons_self ..);have hs':((ds.drop i).map (·.id)).Pairwise (·<·):=by rw [List.map_drop]; exact hs.drop
   rw [Fv hd,List.map_cons,List.pairwise_cons] at hs';have:=hs'.1 d'.id (List.mem_map_of_mem hd');omega
  ·rw [if_neg hx,List.cons_append,List.nil_append] at hl;obtain ⟨g1,g2⟩:=KY hl;exact .inl ⟨_,g1,rfl,by dsimp only; omega,by dsimp only; omega,fun h=>absurd h hh,Dn g1,xs,hP,g2⟩
end Go.Proofs.YtibemkominehdaaGreat
namespace Go.Proofs.YtibemkominehdaaGreat
open Go.GV
attribute [local irreducible] Al W Wq Wt
theorem PK {F:Nat→Int} {E:Nat} {s:Nat→Nat} (h1:∀ i,i<E→s i<E) (h2:∀ i,i<E→s (s i)=i):Bf (fun i=>F (s i)) E=Bf F E:=by
 have e1:Bf (fun i=>F (s i)) E=Bf (fun i=>Bf (fun j=>one (s i=j)*F j) E) E:=BH fun i hi=>(Fq F (h1 i hi)).symm;have e2:=J8 (fun i j=>one (s i=j)*F j) E E
 have e3:Bf (fun j=>Bf (fun i=>one (s i=j)*F j) E) E=Bf F E:=BH fun j hj=>by
  have:Bf (fun i=>one (s i=j)*F j) E=Bf (fun i=>one (s j=i)*F j) E:=BH fun i hi=>by
   rw [HY (p:=s i=j) (q:=s j=i) ⟨fun h=>by rw [← h,h2 i hi],fun h=>by rw [← h,h2 j hj]⟩]
  rw [this];exact Fq (fun _=>F j) (h1 j hj)
 rw [e1,← e3];exact e2
structure Twin (g g':Gr) (cap cap':Nat→Int) (s p:Nat→Nat):Prop where
 N:g'.N=g.N
 E:g'.E=g.E
 s1:∀ i,i<g.E→s i<g.E
 s2:∀ i,i<g.E→s (s i)=i
 p1:∀ v,v<g.N→p v<g.N
 p2:∀ v,v<g.N→p (p v)=v
 f:∀ i,i<g.E→g'.f (s i)=p (g.f i)
 t:∀ i,i<g.E→g'.t (s i)=p (g.t i)
 co:∀ i,i<g.E→g'.co (s i)=g.co i
 cap:∀ i,i<g.E→cap' (s i)=cap i
theorem Twin.symm {g g':Gr} {cap cap':Nat→Int} {s p:Nat→Nat} (_:g'.Ok) (hg:g.Ok) (T:Twin g g' cap cap' s p):Twin g' g cap' cap s p :=
 ⟨T.N.symm,T.E.symm,fun i hi=>by rw [T.E] at hi ⊢; exact T.s1 i hi,fun i hi=>by rw [T.E] at hi; exact T.s2 i hi,
  fun v hv=>by rw [T.N] at hv ⊢; exact T.p1 v hv,fun v hv=>by rw [T.N] at hv; exact T.p2 v hv,
  fun i hi=>by
   rw [T.E] at hi;have h:=T.f (s i) (T.s1 i hi);rw [T.s2 i hi] at h
   rw [h,T.p2 _ (hg.f _ (T.s1 i hi))],
  fun i hi=>by
   rw [T.E] at hi;have h:=T.t (s i) (T.s1 i hi);rw [T.s2 i hi] at h
   rw [h,T.p2 _ (hg.t _ (T.s1 i hi))],
  fun i hi=>by
   rw [T.E] at hi;have h:=T.co (s i) (T.s1 i hi);rw [T.s2 i hi] at h
   exact h.symm,
  fun i hi=>by
   rw [T.E] at hi;have h:=T.cap (s i) (T.s1 i hi);rw [T.s2 i hi] at h
   exact h.symm⟩
theorem Twin.le {g g':Gr} {cap cap' x x' p':Nat→Int} {q:Nat→Int} {s p:Nat→Nat} (T:Twin g g' cap cap' s p) (hg:g.Ok) (h:Fine g cap x q) (h0:∀ v,v<g.N→CA g x v=0) (h':Fine g' cap' x' p') (h0':∀ v,v<g'.N→CA g' x' v=0):Es g x≤Es g' x':=by
 have hc:Es g (fun i=>x' (s i))=Es g' x':=by
  unfold Es;rw [T.E,← PK (F:=fun i=>x' i*g'.co i) T.s1 T.s2];exact BH fun i hi=>by rw [T.co i hi]
 rw [← hc];refine Fine.best hg h h0 (fun i hi=>?_) fun v hv=>?_
 ·have h1:=h'.in' (s i) (by rw [T.E]; exact T.s1 i hi);rw [T.cap i hi] at h1;exact h1
 ·have h1:=h0' (p v) (by rw [T.N]; exact T.p1 v hv);rw [← h1];unfold CA DW;rw [T.E,← PK (F:=fun i=>(one (g'.t i=p v) - one (g'.f i=p v))*x' i) T.s1 T.s2];refine BH fun i hi=>?_;have hp:∀ u,u<g.N→(u=v↔p u=p v):=fun u hu=>⟨fun h=>by rw [h],fun h=>by rw [← T.p2 u hu,h,T.p2 v hv]⟩;rw [T.t i hi,T.f i hi,HY (hp _ (hg.t i hi)),HY (hp _ (hg.f i hi))]
theorem Twin.eq {g g':Gr} {cap cap' x x' p':Nat→Int} {q:Nat→Int} {s p:Nat→Nat} (T:Twin g g' cap cap' s p) (hg:g.Ok) (hg':g'.Ok) (h:Fine g cap x q) (h0:∀ v,v<g.N→CA g x v=0) (h':Fine g' cap' x' p') (h0':∀ v,v<g'.N→CA g' x' v=0):Es g x=Es g' x' :=
 Int.le_antisymm (T.le hg h h0 h' h0') ((T.symm hg' hg).le hg' h' h0' h h0)
def flip (n:Nat) (a b:Du):Du:={ b with id:=a.id,fr:=(n:Int) - 1 - b.fr,to:=(n:Int) - 1 - b.to }
def turnD (n:Nat) (ds:List Du):List Du:=List.zipWith (flip n) ds ds.reverse
def mirE (n:Nat) (e:Ed):Ed:={ e with f:=(n:Int) - 1 - e.f,t:=(n:Int) - 1 - e.t }
def sigN (n m i:Nat):Nat:=if i<m then m - 1 - i else m+(2*(n - 1 - (i - m) / 2)+(i - m) % 2)
def piN (n v:Nat):Nat:=if v<n then n - 1 - v else v
end Go.Proofs.YtibemkominehdaaGreat
namespace Go.Proofs.YtibemkominehdaaGreat
open Go.GV
attribute [local irreducible] Al W Wq Wt
def costR (r:Rnd):Int:=Es (grE r.N r.es) (flE r.fl)
theorem Ng {f g:Nat→Int} {m:Nat}:∀ n,m≤n→(∀ i,i<m→f i=g i)→(∀ i,m≤i→i<n→f i=0)→Bf f n=Bf g m
 | 0,h,_,_=>by
  obtain rfl:m=0:=by omega
  rfl
 | n+1,h,h1,h2=>by
  rcases Nat.lt_or_ge n m with h3 | h3
  ·obtain rfl:m=n+1:=by omega
   exact BH h1
  ·show Bf f n+f n=_;rw [Ng n h3 h1 fun i hi hn=>h2 i hi (by omega),h2 n h3 (by omega),Int.add_zero]
end Go.Proofs.YtibemkominehdaaGreat
namespace Go.Proofs.YtibemkominehdaaGreat
open Go.GV
theorem Nh {rs:List Int} {os:List Du} {net:Bool} {xs:List Int} (hl:os.length≤xs.length) (v:Nat):∀ k,k≤os.length→(∀ (i:Nat) (d:Du) (x:Int),i<k→os[i]? = some d→xs[i]? = some x→0≤x∧x≤d.am) →
  -BO ((os.map Du.am).take k)≤DW (grE ((rs.length+1:Nat):Int) (Bj rs os net)) (flE xs) k v∧DW (grE ((rs.length+1:Nat):Int) (Bj rs os net)) (flE xs) k v≤BO ((os.map Du.am).take k)
 | 0,_,_=>⟨Int.le_refl _,Int.le_refl _⟩
 | k+1,h,hp=>by
  have ih:=Nh (rs:=rs) (net:=net) hl v k (by omega) fun i d x hi=>hp i d x (by omega);obtain ⟨d,hd⟩:=AV (l:=os) (i:=k);obtain ⟨x,hx⟩:=AV (l:=xs) (i:=k);have h1:=hp k d x (by omega) hd hx;have hm:(os.map Du.am)[k]? = some d.am:=by rw [List.getElem?_map,hd]; rfl
  have h2:∀ (p q:Prop) [Decidable p] [Decidable q],-x≤(one p - one q)*x∧(one p - one q)*x≤x:=fun p q _ _=>by
   by_cases hp:p <;> by_cases hq:q <;> simp only [one,if_pos,if_neg,hp,hq,not_false_eq_true] <;> omega
  rw [EX,KQ hm,show flE xs k=x from BM hx];have h3:=h2 ((grE ((rs.length+1:Nat):Int) (Bj rs os net)).t k=v) ((grE ((rs.length+1:Nat):Int) (Bj rs os net)).f k=v);omega
theorem UT {rs:List Int} {os:List Du} {net:Bool} {xs:List Int} (hp:PayIn os xs) (v:Nat) (k:Nat) (h:k≤os.length) :
  -BO ((os.map Du.am).take k)≤DW (grE ((rs.length+1:Nat):Int) (Bj rs os net)) (flE xs) k v∧DW (grE ((rs.length+1:Nat):Int) (Bj rs os net)) (flE xs) k v≤BO ((os.map Du.am).take k) :=
 Nh (Nat.le_of_eq hp.1) v k h fun i d x _=>hp.2 i d x
def PL (rs:List Int) (net:Bool) (k:Nat):Int:=if net=true then 0 else rs.getD k 0
def Ni (rs:List Int) (os:List Du) (net:Bool) (xs:List Int) (k:Nat):Int:=PL rs net k+byK rs os net xs k
structure PermP (rs:List Int) (ds:List Du) (net:Bool) (xs:List Int):Prop where
 B:Bright rs ds
 pay:PayIn (opn ds) xs
 left:∀ k,k<rs.length→0≤Ni rs (opn ds) net xs k∧(net=true→Ni rs (opn ds) net xs k=0)
def LW (os:List Du) (xs:List Int) (k:Nat):Int:=Bf (fun i=>(os.getD i d00).we*xs.getD i 0) k
def Ew (rs:List Int) (os:List Du) (net:Bool) (xs:List Int) (i:Nat):Int :=
 if i<os.length then flE xs i else if (i - os.length) % 2=0 then max 0 (-byK rs os net xs ((i - os.length) / 2)) else max 0 (byK rs os net xs ((i - os.length) / 2))
theorem HZ {rs:List Int} {os:List Du} {net:Bool} {xs:List Int} {i:Nat} (h:i<os.length):Ew rs os net xs i=flE xs i:=if_pos h
theorem Nj (rs:List Int) (os:List Du) (net:Bool) (xs:List Int) (k:Nat):Ew rs os net xs (os.length+2*k)=max 0 (-byK rs os net xs k):=by
 unfold Ew;rw [if_neg (by omega),if_pos (by omega),show (os.length+2*k - os.length) / 2=k by omega]
theorem KZ (rs:List Int) (os:List Du) (net:Bool) (xs:List Int) (k:Nat):Ew rs os net xs (os.length+2*k+1)=max 0 (byK rs os net xs k):=by
 unfold Ew;rw [if_neg (by omega),if_neg (by omega),show (os.length+2*k+1 - os.length) / 2=k by omega]
theorem FX {g:Gr} {x y:Nat→Int} (v:Nat):∀ k,(∀ i,i<k→x i=y i)→DW g x k v=DW g y k v
 | 0,_=>rfl
 | k+1,h=>by rw [EX,EX,FX v k fun i hi=>h i (by omega),h k (by omega)]
theorem Nk {rs:List Int} {os:List Du} {j:Nat} (hj:j<rs.length):∃ x,rs[j]? = some x∧(Bj rs os false)[os.length+2*j]? = some ⟨rs.length,j,x,0⟩∧(Bj rs os false)[os.length+2*j+1]? = some ⟨j,rs.length,4503599627370496,0⟩:=by
 obtain ⟨x,hx⟩:=AV (h:=hj);exact ⟨x,hx,Gt (JI hx),by rw [Nat.add_assoc]; exact Gt (LU hj)⟩
theorem Ow {rs:List Int} {ds:List Du} {net:Bool} {xs:List Int} (P:PermP rs ds net xs):∀ v,v<rs.length+1→CA (grE ((rs.length+1:Nat):Int) (Bj rs (opn ds) net)) (Ew rs (opn ds) net xs) v=0:=by
 have hB:=P.B.right net;have hok:=SY hB;have hN:(grE ((rs.length+1:Nat):Int) (Bj rs (opn ds) net)).N=rs.length+1:=by show ((rs.length+1:Nat):Int).toNat=_; omega
 have hE:(grE ((rs.length+1:Nat):Int) (Bj rs (opn ds) net)).E=(Bj rs (opn ds) net).length:=rfl;have hlen:=Hg rs (opn ds) net
 have hb:∀ v,v<rs.length→CA (grE ((rs.length+1:Nat):Int) (Bj rs (opn ds) net)) (Ew rs (opn ds) net xs) v=0:=fun v hv=>by
  have h0:DW (grE ((rs.length+1:Nat):Int) (Bj rs (opn ds) net)) (Ew rs (opn ds) net xs) (opn ds).length v=byK rs (opn ds) net xs v:=FX v _ fun i hi=>HZ hi;unfold CA;rw [hE,hlen]
  cases net with
  | true =>
   rw [if_pos rfl,show (opn ds).length+0=(opn ds).length from rfl,h0];have:=(P.left v hv).2 rfl;unfold Ni PL at this;rw [if_pos rfl] at this;omega
  | false =>
   rw [if_neg (by decide),JJ (n:=rs.length) (fun j hj=>?_) hv rs.length (Nat.le_refl _),if_pos hv,h0,Nj,KZ]
   ·omega
   ·obtain ⟨x,-,e1,e2⟩:=Nk (os:=opn ds) hj;rw [Ou e1,Ov e1,Ou e2,Ov e2];dsimp only;omega
 intro v hv
 rcases Nat.lt_or_ge v rs.length with h | h
 ·exact hb v h
 ·obtain rfl:v=rs.length:=by omega
  have ha:=GM _ hok (Ew rs (opn ds) net xs);rw [hN] at ha;have h2:Bf (CA (grE ((rs.length+1:Nat):Int) (Bj rs (opn ds) net)) (Ew rs (opn ds) net xs)) rs.length=Bf (fun _=>0) rs.length:=BH hb;have h3:Bf (CA (grE ((rs.length+1:Nat):Int) (Bj rs (opn ds) net)) (Ew rs (opn ds) net xs)) rs.length+CA (grE ((rs.length+1:Nat):Int) (Bj rs (opn ds) net)) (Ew rs (opn ds) net xs) rs.length=0:=ha;rw [h2,ET] at h3;omega
theorem La {rs:List Int} {os:List Du} {net:Bool} {i:Nat} (hi:i<(Bj rs os net).length):(∃ d,os[i]? = some d∧(Bj rs os net)[i]? = some (JG d)) ∨
  (net=false∧∃ k x,k<rs.length∧rs[k]? = some x∧((i=os.length+2*k∧(Bj rs os net)[i]? = some ⟨rs.length,k,x,0⟩)∨(i=os.length+2*k+1∧(Bj rs os net)[i]? = some ⟨k,rs.length,4503599627370496,0⟩))):=by
 have hlen:=Hg rs os net
 rcases Nat.lt_or_ge i os.length with h | h
 ·obtain ⟨d,hd⟩:=AV (h:=h);exact .inl ⟨d,hd,Hh hd⟩
 ·cases net with
  | true=>rw [hlen,if_pos rfl] at hi; omega
  | false =>
   rw [hlen,if_neg (by decide)] at hi;obtain ⟨x,hx,e1,e2⟩:=Nk (os:=os) (j:=(i - os.length) / 2) (rs:=rs) (by omega);refine .inr ⟨rfl,(i - os.length) / 2,x,by omega,hx,?_⟩
   by_cases hp:(i - os.length) % 2=0
   ·exact .inl ⟨by omega,by rw [show os.length+2*((i - os.length) / 2)=i by omega] at e1; exact e1⟩
   ·exact .inr ⟨by omega,by rw [show os.length+2*((i - os.length) / 2)+1=i by omega] at e2; exact e2⟩
theorem QA {rs:List Int} {ds:List Du} {net:Bool} {xs:List Int} (P:PermP rs ds net xs) {i:Nat} (hi:i<(Bj rs (opn ds) net).length):0≤Ew rs (opn ds) net xs i∧Ew rs (opn ds) net xs i≤JB (Bj rs (opn ds) net) i:=by
 have htot:=P.B.open'.tot;unfold JB
 rcases La hi with ⟨d,hd,he⟩ | ⟨rfl,k,x,hk,hx,⟨rfl,he⟩ | ⟨rfl,he⟩⟩
 ·have hl:=P.pay.1;have hlt:=Dn hd;obtain ⟨y,hy⟩:=AV (l:=xs) (i:=i);have:=P.pay.2 i d y hd hy;rw [HZ hlt,show flE xs i=y from BM hy,BM he];exact this
 ·rw [Nj,BM he];have h1:=(P.left k hk).1;have h2:=Cd.1 (P.B.may x (List.mem_of_getElem? hx));unfold Ni PL at h1;rw [if_neg (by decide),BM hx] at h1;show 0≤max 0 _∧max 0 _≤x;omega
 ·rw [KZ,BM he];have h1:=(UT (rs:=rs) (net:=false) P.pay k _ (Nat.le_refl _)).2;rw [List.take_of_length_le (by rw [List.length_map]; exact Nat.le_refl _)] at h1;have h2:byK rs (opn ds) false xs k≤4503599627370496:=Int.le_trans h1 htot;show 0≤max 0 _∧max 0 _≤(4503599627370496:Int);omega
theorem IB {rs:List Int} {os:List Du} {net:Bool} {y:Nat→Int} {xs:List Int} (hy:∀ i,i<os.length→y i=flE xs i):Es (grE ((rs.length+1:Nat):Int) (Bj rs os net)) y = -LW os xs os.length:=by
 have hlen:=Hg rs os net
 have h1:Es (grE ((rs.length+1:Nat):Int) (Bj rs os net)) y=Bf (fun i => -((os.getD i d00).we*xs.getD i 0)) os.length:=by
  unfold Es;refine Ng (f:=fun i=>y i*(grE ((rs.length+1:Nat):Int) (Bj rs os net)).co i) _ (by show os.length≤(Bj rs os net).length; omega) (fun i hi=>?_) fun i hi h2=>?_
  ·obtain ⟨d,hd⟩:=AV (h:=hi)
   (try dsimp only)
   rw [Nd (Hh hd),BM hd,hy i hi];unfold JG flE;dsimp only;rw [Int.mul_neg,Int.mul_comm]
  ·rcases La (rs:=rs) (os:=os) (net:=net) (i:=i) h2 with ⟨d,hd,he⟩ | ⟨hn,k,x,hk,hx,⟨hi2,he⟩ | ⟨hi2,he⟩⟩
   ·have:=Dn hd;omega
   ·(try dsimp only)
    rw [Nd he];exact Int.mul_zero _
   ·(try dsimp only)
    rw [Nd he];exact Int.mul_zero _
 rw [h1,LK];rfl
structure RndF (rs:List Int) (ds:List Du) (net:Bool) (r:Rnd):Prop where
 N:r.N=((rs.length+1:Nat):Int)
 es:r.es=Bj rs (opn ds) net
 chk:HT r.N r.es r.fl r.pot=true
theorem RndF.fine {rs:List Int} {ds:List Du} {net:Bool} {r:Rnd} (P:RndF rs ds net r):D0 r.N r.es=true∧Ec r.N r.es r.fl=true∧(∀ v,v<r.N.toNat→CA (grE r.N r.es) (flE r.fl) v=0)∧Fine (grE r.N r.es) (JB r.es) (flE r.fl) (MY r.pot):=by
 obtain ⟨h1,-,h3⟩:=HX.1 P.chk;obtain ⟨h4,h5⟩:=EY h1;exact ⟨(D9 h4).2.1,h4,h5,h3⟩
theorem RndF.best {rs:List Int} {ds:List Du} {net:Bool} {r:Rnd} (P:RndF rs ds net r) {xs:List Int} (Q:PermP rs ds net xs):LW (opn ds) xs (opn ds).length≤LW (opn ds) (r.fl) (opn ds).length:=by
 obtain ⟨p1,p2,p3,p4⟩:=P.fine;rw [P.N,P.es] at p1 p3 p4;have hN:(grE ((rs.length+1:Nat):Int) (Bj rs (opn ds) net)).N=rs.length+1:=by show ((rs.length+1:Nat):Int).toNat=_; omega
 have hN2:((rs.length+1:Nat):Int).toNat=rs.length+1:=by omega
 have h:=Fine.best (SY p1) p4 (fun v hv=>p3 v (by rw [hN] at hv; omega)) (y:=Ew rs (opn ds) net xs) (fun i hi=>QA Q hi) fun v hv=>Ow Q v (by rw [hN] at hv; exact hv);rw [IB (xs:=r.fl) fun i _=>rfl,IB fun i hi=>HZ hi] at h;omega
theorem RndF.perm {rs:List Int} {ds:List Du} {net:Bool} {r:Rnd} (P:RndF rs ds net r) (hB:Bright rs ds):PermP rs ds net (r.fl.take (opn ds).length)∧Bf (byK rs (opn ds) net r.fl) rs.length=0∧(∀ (k:Nat) (x:Int),rs[k]? = some x→(net=true→byK rs (opn ds) net r.fl k=0) ∧ -x≤byK rs (opn ds) net r.fl k∧byK rs (opn ds) net r.fl k≤4503599627370496):=by
 have hc:=(HX.1 P.chk).1;rw [P.N,P.es] at hc;obtain ⟨h1,h2,h3,h4⟩:=Tx (fun x hx=>(Cd.1 (hB.may x hx)).1) hB.open'.due hc;refine ⟨⟨hB,h1,fun k hk=>?_⟩,h4,h3⟩
 have hby:byK rs (opn ds) net (r.fl.take (opn ds).length) k=byK rs (opn ds) net r.fl k:=FX k _ fun i hi=>by
  unfold flE;rw [List.getD_eq_getElem?_getD,List.getD_eq_getElem?_getD,List.getElem?_take,if_pos hi]
 obtain ⟨x,hx⟩:=AV (h:=hk);obtain ⟨g1,g2,-⟩:=h3 k x hx;unfold Ni PL;rw [hby]
 cases net with
 | true=>rw [if_pos rfl,g1 rfl]; exact ⟨by omega,fun _=>by omega⟩
 | false=>rw [if_neg (by decide),BM hx]; exact ⟨by omega,fun h=>by cases h⟩
def T6:List Du→List Int→List Int→List Int
 | [],_,_=>[]
 | _::_,[],ys=>ys
 | d::os,x::xs,ys=>if d.am=x then x::T6 os xs ys else match ys with
  | []=>x::T6 os xs []
  | y::ys=>(x+y)::T6 os xs ys
def VC:List Du→List Int→List Du
 | [],_=>[]
 | d::ds,[]=>d::ds
 | d::ds,x::xs=>if d.am=x then VC ds xs else { d with am:=d.am - x }::VC ds xs
end Go.Proofs.YtibemkominehdaaGreat
namespace Go.Proofs.YtibemkominehdaaGreat
open Go.GV
end Go.Proofs.YtibemkominehdaaGreat
namespace Go.Proofs.YtibemkominehdaaGreat
open Go.GV
structure Ak where
 kd:Int
 a:Int
 b:Int
 x:Int
 w:Int
 u:Int
 id:Int
structure Ld where
 day:Int
 acs:List Ac
 ds:List Du
 nx:Int
 rn:List Rnd
 no:Int
def mayR (r:Rnd):Bool:=HT r.N r.es r.fl r.pot && (decide (r.ids.length≤64) && decide (0≤r.day))
structure Ld.Ok (s:Ld):Prop where
 ac:FE s.acs=0
 du:ofC s.ds s.nx=0
 bk:∀ d∈s.ds,d.fr<s.acs.length∧d.to<s.acs.length
 day:0≤s.day∧s.day≤9223372036854775807
 kept:s.rn.length≤4∧(s.rn.length:Int)≤s.no∧s.no≤4611686018427387904
 nos:∀ (i:Nat) (r:Rnd),s.rn[i]? = some r→r.no=s.no - s.rn.length+1+i
 may:∀ r∈s.rn,mayR r=true
def bas (acs:List Ac):List Int:=acs.map Ac.ba
def Gw (acs:List Ac) (k:Int) (a:Ac):List Ac:=acs.set k.toNat a
def Dd (acs:List Ac) (k x:Int):Int:=if inA acs k=false then 10 else if (decide (0<x) && Cr x)=false then 1 else if (D4 (bas acs++[x])).2≠0 then 13 else 0
def Cy (acs:List Ac) (k x:Int):List Ac:=if Dd acs k x=0 then Gw acs k ⟨(Cx acs k).ba+x,(Cx acs k).re⟩ else acs
def Hj (acs:List Ac) (k x:Int):Int:=if inA acs k=false then 10 else if (decide (0<x) && Cr x)=false then 1 else if (Cx acs k).ba<x then 12 else 0
def F5 (acs:List Ac) (k x:Int):List Ac:=if Hj acs k x=0 then Gw acs k ⟨(Cx acs k).ba - x,(Cx acs k).re⟩ else acs
def Ox (acs:List Ac) (k x:Int):Int:=if inA acs k=false then 10 else if Cr x=false then 1 else 0
def II (acs:List Ac) (k x:Int):List Ac:=if Ox acs k x=0 then Gw acs k ⟨(Cx acs k).ba,x⟩ else acs
theorem Fw {acs:List Ac} {k:Int}:inA acs k=true↔0≤k∧k<acs.length:=by
 unfold inA;rw [Bool.and_eq_true,decide_eq_true_eq,decide_eq_true_eq]
theorem Ee {acs:List Ac} {k:Int} (h:inA acs k=true):acs[k.toNat]? = some (Cx acs k):=by
 have h1:=Fw.1 h;obtain ⟨a,ha⟩:=AV (l:=acs) (i:=k.toNat);unfold Cx;rw [if_pos h,ha,BM ha]
theorem Hk {xs:List Int}:∀ {i:Nat} {x y:Int},xs[i]? = some x→BO (xs.set i y)=BO xs - x+y:=by
 induction xs with
 | nil=>intro i x y h; cases h
 | cons z xs ih =>
  intro i x y h
  cases i with
  | zero =>
   simp only [List.getElem?_cons_zero,Option.some.injEq] at h;subst h;rw [List.set_cons_zero,BX,BX];omega
  | succ i =>
   rw [List.set_cons_succ,BX,BX,ih (show xs[i]? = some x from h)];omega
theorem Hl (acs:List Ac) (k:Int) (a:Ac):bas (Gw acs k a)=(bas acs).set k.toNat a.ba:=by
 unfold bas Gw;rw [List.map_set]
theorem Hm (acs:List Ac) (k:Int) (a:Ac):(Gw acs k a).length=acs.length:=by unfold Gw; rw [List.length_set]
theorem LY {acs:List Ac} {k:Int} {a:Ac} (h:FE acs=0) (hk:inA acs k=true) (hm:KT a=true) (hs:BO (bas acs) - (Cx acs k).ba+a.ba≤4503599627370496):FE (Gw acs k a)=0:=by
 obtain ⟨h1,h2,h3⟩:=CU.1 h;have h4:=Dc.1 h3;have hg:(bas acs)[k.toNat]? = some (Cx acs k).ba:=by unfold bas; rw [List.getElem?_map,Ee hk]; rfl
 refine CU.2 ⟨by rw [Hm]; exact h1,fun b hb=>?_,Dc.2 ⟨fun x hx=>?_,?_⟩⟩
 ·unfold Gw at hb
  rcases List.mem_or_eq_of_mem_set hb with h5 | rfl
  ·exact h2 b h5
  ·exact hm
 ·change x∈bas (Gw acs k a) at hx
  rw [Hl] at hx
  rcases List.mem_or_eq_of_mem_set hx with h5 | rfl
  ·exact h4.1 x h5
  ·exact Cd.2 (EZ.1 hm).1
 ·change BO (bas (Gw acs k a))≤_
  rw [Hl,Hk hg];exact hs
theorem Hn {acs:List Ac} {k:Int} (h:FE acs=0) (hk:inA acs k=true):(0≤(Cx acs k).ba∧(Cx acs k).ba≤4503599627370496)∧0≤(Cx acs k).re∧(Cx acs k).re≤4503599627370496 :=
 EZ.1 ((CU.1 h).2.1 _ (List.mem_of_getElem? (Ee hk)))
theorem Oy {acs:List Ac} (h:FE acs=0):(∀ x∈bas acs,Cr x=true)∧BO (bas acs)≤4503599627370496:=Dc.1 (CU.1 h).2.2
theorem GF (acs:List Ac) (k x:Int):(Dd acs k x≠0∧Cy acs k x=acs)∨(Dd acs k x=0∧inA acs k=true∧0<x∧Cr x=true∧(D4 (bas acs++[x])).2=0∧Cy acs k x=Gw acs k ⟨(Cx acs k).ba+x,(Cx acs k).re⟩):=by
 by_cases h:Dd acs k x=0
 ·refine .inr ⟨h,?_⟩;have h2:=h;unfold Dd at h2
  cases h3:inA acs k with
  | false=>rw [if_pos h3] at h2; cases h2
  | true =>
   rw [if_neg (by rw [h3]; decide)] at h2
   cases h4:(decide (0<x) && Cr x) with
   | false=>rw [if_pos h4] at h2; cases h2
   | true =>
    rw [if_neg (by rw [h4]; decide)] at h2;rw [Bool.and_eq_true,decide_eq_true_eq] at h4
    by_cases h5:(D4 (bas acs++[x])).2≠0
    ·rw [if_pos h5] at h2; cases h2
    ·refine ⟨rfl,h4.1,h4.2,by omega,?_⟩;unfold Cy;rw [if_pos h]
 ·refine .inl ⟨h,?_⟩;unfold Cy;rw [if_neg h]
theorem PM {acs:List Ac} (h:FE acs=0) (k x:Int):FE (Cy acs k x)=0∧(Cy acs k x).length=acs.length∧BO (bas (Cy acs k x))=BO (bas acs)+(if Dd acs k x=0 then x else 0):=by
 rcases GF acs k x with ⟨h1,h2⟩ | ⟨h1,hk,hx,hm,ht,h2⟩
 ·rw [h2,if_neg h1];exact ⟨h,rfl,by omega⟩
 ·have hg:=Hn h hk;have h3:=(Dc.1 ht).2;rw [FU,BX] at h3;have h4:BO ([]:List Int)=0:=rfl;have hmem:(Cx acs k).ba∈bas acs:=List.mem_map_of_mem (List.mem_of_getElem? (Ee hk));have h5:=Ty (fun y hy=>(Cd.1 ((Oy h).1 y hy)).1) _ hmem;have hx2:=Cd.1 hm;rw [h2,if_pos h1];refine ⟨LY h hk (EZ.2 ⟨⟨by dsimp only; omega,by dsimp only; omega⟩,hg.2⟩) (by dsimp only; omega),Hm ..,?_⟩;rw [Hl,Hk (x:=(Cx acs k).ba) (by unfold bas; rw [List.getElem?_map,Ee hk]; rfl)];dsimp only;omega
theorem Oz (acs:List Ac) (k x:Int):(Hj acs k x≠0∧F5 acs k x=acs)∨(Hj acs k x=0∧inA acs k=true∧0<x∧Cr x=true∧x≤(Cx acs k).ba∧F5 acs k x=Gw acs k ⟨(Cx acs k).ba - x,(Cx acs k).re⟩):=by
 by_cases h:Hj acs k x=0
 ·refine .inr ⟨h,?_⟩;have h2:=h;unfold Hj at h2
  cases h3:inA acs k with
  | false=>rw [if_pos h3] at h2; cases h2
  | true =>
   rw [if_neg (by rw [h3]; decide)] at h2
   cases h4:(decide (0<x) && Cr x) with
   | false=>rw [if_pos h4] at h2; cases h2
   | true =>
    rw [if_neg (by rw [h4]; decide)] at h2;rw [Bool.and_eq_true,decide_eq_true_eq] at h4
    by_cases h5:(Cx acs k).ba<x
    ·rw [if_pos h5] at h2; cases h2
    ·refine ⟨rfl,h4.1,h4.2,by omega,?_⟩;unfold F5;rw [if_pos h]
 ·refine .inl ⟨h,?_⟩;unfold F5;rw [if_neg h]
theorem UU {acs:List Ac} (h:FE acs=0) (k x:Int):FE (F5 acs k x)=0∧(F5 acs k x).length=acs.length∧BO (bas (F5 acs k x))=BO (bas acs) - (if Hj acs k x=0 then x else 0):=by
 rcases Oz acs k x with ⟨h1,h2⟩ | ⟨h1,hk,hx,hm,hle,h2⟩
 ·rw [h2,if_neg h1];exact ⟨h,rfl,by omega⟩
 ·have hg:=Hn h hk;have h3:=(Oy h).2;rw [h2,if_pos h1];refine ⟨LY h hk (EZ.2 ⟨⟨by dsimp only; omega,by dsimp only; omega⟩,hg.2⟩) (by dsimp only; omega),Hm ..,?_⟩;rw [Hl,Hk (x:=(Cx acs k).ba) (by unfold bas; rw [List.getElem?_map,Ee hk]; rfl)];dsimp only;omega
theorem QB (acs:List Ac) (k x:Int):(Ox acs k x≠0∧II acs k x=acs)∨(Ox acs k x=0∧inA acs k=true∧Cr x=true∧II acs k x=Gw acs k ⟨(Cx acs k).ba,x⟩):=by
 by_cases h:Ox acs k x=0
 ·refine .inr ⟨h,?_⟩;have h2:=h;unfold Ox at h2
  cases h3:inA acs k with
  | false=>rw [if_pos h3] at h2; cases h2
  | true =>
   rw [if_neg (by rw [h3]; decide)] at h2
   cases h4:Cr x with
   | false=>rw [if_pos h4] at h2; cases h2
   | true =>
    refine ⟨rfl,rfl,?_⟩;unfold II;rw [if_pos h]
 ·refine .inl ⟨h,?_⟩;unfold II;rw [if_neg h]
theorem WV {acs:List Ac} (h:FE acs=0) (k x:Int):FE (II acs k x)=0∧(II acs k x).length=acs.length∧BO (bas (II acs k x))=BO (bas acs):=by
 rcases QB acs k x with ⟨h1,h2⟩ | ⟨h1,hk,hm,h2⟩
 ·rw [h2];exact ⟨h,rfl,rfl⟩
 ·have hg:=Hn h hk;have h3:=(Oy h).2;have hx:=Cd.1 hm;rw [h2];refine ⟨LY h hk (EZ.2 ⟨hg.1,hx⟩) (by dsimp only; omega),Hm ..,?_⟩;rw [Hl,Hk (x:=(Cx acs k).ba) (by unfold bas; rw [List.getElem?_map,Ee hk]; rfl)];dsimp only;omega
theorem T7 {acs:List Ac} (h:FE acs=0) (hl:acs.length<16):FE (acs++[a00])=0∧BO (bas (acs++[a00]))=BO (bas acs):=by
 obtain ⟨h1,h2,h3⟩:=CU.1 h;have h4:=Dc.1 h3
 have h5:BO ((acs++[a00]).map Ac.ba)=BO (acs.map Ac.ba):=by
  rw [List.map_append,FU];show BO (acs.map Ac.ba)+0=_;omega
 refine ⟨CU.2 ⟨by rw [List.length_append,List.length_singleton]; omega,fun b hb=>?_,Dc.2 ⟨fun x hx=>?_,by rw [h5]; exact h4.2⟩⟩,h5⟩
 ·rcases List.mem_append.1 hb with h6 | h6
  ·exact h2 b h6
  ·rw [List.mem_singleton.1 h6]; decide
 ·rw [List.map_append] at hx
  rcases List.mem_append.1 hx with h6 | h6
  ·exact h4.1 x h6
  ·rw [List.mem_singleton.1 h6]; decide
def oneD (nx fr to x w u:Int):Du:=⟨nx,fr,to,x,w,u,false⟩
def QC (ds:List Du) (nx fr to x w u:Int):Int:=if JE (oneD nx fr to x w u)=false then 1 else if 64≤ds.length∨4611686018427387904≤nx then 6 else if (D4 (ds.map Du.am++[x])).2≠0 then 13 else 0
def O1 (ds:List Du) (nx fr to x w u:Int):List Du:=if QC ds nx fr to x w u=0 then ds++[oneD nx fr to x w u] else ds
def T8 (ds:List Du) (nx fr to x w u:Int):Int:=if QC ds nx fr to x w u=0 then nx+1 else nx
def hldC (ds:List Du) (k:Int) (b:Bool):Int:=match KU ds k with
 | none=>11
 | some d=>if d.held=b then 14 else 0
def QD (ds:List Du) (k:Int) (b:Bool):List Du:=if hldC ds k b=0 then ds.map fun d=>if d.id=k then { d with held:=b } else d else ds
def cnlC (ds:List Du) (k:Int):Int:=match KU ds k with
 | none=>11
 | some _=>0
def cnlD (ds:List Du) (k:Int):List Du:=ds.filter fun d => !decide (d.id=k)
def expD (ds:List Du) (u:Int):List Du:=ds.filter fun d=>decide (u≤d.un)
theorem FY {ds:List Du} {nx:Int} (h:ofC ds nx=0):ds.length≤64∧(1≤nx∧nx≤4611686018427387904)∧LQ nx 0 ds=true∧BO (ds.map Du.am)≤4503599627370496:=by
 obtain ⟨h1,h2,h3,h4⟩:=LV.1 h;exact ⟨h1,h2,h3,(Dc.1 h4).2⟩
theorem LZ {nx:Int}:∀ {ah:Int} {ds:List Du},LQ nx ah ds=true↔(∀ d∈ds,JE d=true∧ah<d.id∧d.id<nx)∧(ds.map Du.id).Pairwise (·<·)
 | ah,[]=>⟨fun _=>⟨fun _ h=>(by cases h),List.Pairwise.nil⟩,fun _=>rfl⟩
 | ah,x::ds=>by
  simp only [LQ,Bool.and_eq_true,decide_eq_true_eq,List.map_cons,List.pairwise_cons];rw [LZ];constructor
  ·rintro ⟨⟨h1,h2,h3⟩,h4,h5⟩;refine ⟨fun d hd=>?_,fun y hy=>?_,h5⟩
   ·rcases List.mem_cons.1 hd with rfl | hd
    ·exact ⟨h1,h2,h3⟩
    ·obtain ⟨g1,g2,g3⟩:=h4 d hd;exact ⟨g1,by omega,g3⟩
   ·obtain ⟨d,hd,rfl⟩:=List.mem_map.1 hy;exact (h4 d hd).2.1
  ·rintro ⟨h1,h2,h3⟩;obtain ⟨g1,g2,g3⟩:=h1 x (List.mem_cons_self ..);refine ⟨⟨g1,g2,g3⟩,fun d hd=>?_,h3⟩;obtain ⟨k1,-,k3⟩:=h1 d (List.mem_cons_of_mem _ hd);exact ⟨k1,h2 _ (List.mem_map_of_mem hd),k3⟩
theorem Ma {ds:List Du} {nx:Int} (h1:ds.length≤64) (h2:1≤nx∧nx≤4611686018427387904) (h3:∀ d∈ds,JE d=true∧0<d.id∧d.id<nx) (h4:(ds.map Du.id).Pairwise (·<·)) (h5:BO (ds.map Du.am)≤4503599627370496):ofC ds nx=0:=by
 refine LV.2 ⟨h1,h2,LZ.2 ⟨h3,h4⟩,Dc.2 ⟨fun x hx=>?_,h5⟩⟩;obtain ⟨d,hd,rfl⟩:=List.mem_map.1 hx;have:=Fu (h3 d hd).1;exact Cd.2 (by omega)
theorem Mb {ds:List Du} {nx:Int} (h:ofC ds nx=0):(∀ d∈ds,JE d=true∧0<d.id∧d.id<nx)∧(ds.map Du.id).Pairwise (·<·):=LZ.1 (FY h).2.2.1
theorem JK (p:Du→Bool):∀ {ds:List Du},(∀ d∈ds,0≤d.am)→BO ((ds.filter p).map Du.am)≤BO (ds.map Du.am)
 | [],_=>Int.le_refl _
 | d::ds,h=>by
  have ih:=JK p (ds:=ds) fun e he=>h e (List.mem_cons_of_mem _ he);have h0:=h d (List.mem_cons_self ..);rw [List.filter_cons]
  split
  ·rw [List.map_cons,List.map_cons,BX,BX]; omega
  ·rw [List.map_cons,BX]; omega
theorem Lc {ds:List Du} {nx:Int} (h:ofC ds nx=0) (p:Du→Bool):ofC (ds.filter p) nx=0:=by
 obtain ⟨h1,h2,-,h4⟩:=FY h;obtain ⟨h5,h6⟩:=Mb h;have h7:(ds.filter p).Sublist ds:=List.filter_sublist;refine Ma (Nat.le_trans h7.length_le h1) h2 (fun d hd=>h5 d (h7.subset hd)) ?_ (Int.le_trans (JK p fun d hd=>by have:=Fu (h5 d hd).1; omega) h4);exact h6.sublist (h7.map _)
theorem WW {ds:List Du} {nx:Int} (h:ofC ds nx=0) (fr to x w u:Int):ofC (O1 ds nx fr to x w u) (T8 ds nx fr to x w u)=0:=by
 unfold O1 T8
 by_cases hC:QC ds nx fr to x w u=0
 ·rw [if_pos hC,if_pos hC];unfold QC at hC
  cases hm:JE (oneD nx fr to x w u) with
  | false=>rw [if_pos hm] at hC; cases hC
  | true =>
   rw [if_neg (by rw [hm]; decide)] at hC
   by_cases hl:64≤ds.length∨4611686018427387904≤nx
   ·rw [if_pos hl] at hC; cases hC
   ·rw [if_neg hl] at hC
    by_cases ht:(D4 (ds.map Du.am++[x])).2≠0
    ·rw [if_pos ht] at hC; cases hC
    ·obtain ⟨h1,h2,-,h4⟩:=FY h;obtain ⟨h5,h6⟩:=Mb h;have h7:=(Dc.1 (show (D4 (ds.map Du.am++[x])).2=0 by omega)).2;refine Ma (by rw [List.length_append,List.length_singleton]; omega) (by omega) (fun d hd=>?_) ?_ (by rw [List.map_append]; exact h7)
     ·rcases List.mem_append.1 hd with h8 | h8
      ·obtain ⟨g1,g2,g3⟩:=h5 d h8;exact ⟨g1,g2,by omega⟩
      ·rw [List.mem_singleton.1 h8];exact ⟨hm,by show 0<nx; omega,by show nx<nx+1; omega⟩
     ·rw [List.map_append,List.pairwise_append];refine ⟨h6,List.pairwise_singleton ..,fun y hy z hz=>?_⟩;obtain ⟨d,hd,rfl⟩:=List.mem_map.1 hy;have hz':z=nx:=by simpa [oneD] using hz
      rw [hz'];exact (h5 d hd).2.2
 ·rw [if_neg hC,if_neg hC];exact h
theorem T9 {ds:List Du} {nx:Int} (h:ofC ds nx=0) (k:Int) (b:Bool):ofC (QD ds k b) nx=0:=by
 unfold QD
 split
 ·obtain ⟨h1,h2,-,h4⟩:=FY h;obtain ⟨h5,h6⟩:=Mb h
  have hid:(ds.map fun d=>if d.id=k then { d with held:=b } else d).map Du.id=ds.map Du.id:=by
   rw [List.map_map];refine List.map_congr_left fun d _=>?_;show (if d.id=k then ({ d with held:=b }:Du) else d).id=d.id
   split <;> rfl
  have ham:(ds.map fun d=>if d.id=k then { d with held:=b } else d).map Du.am=ds.map Du.am:=by
   rw [List.map_map];refine List.map_congr_left fun d _=>?_;show (if d.id=k then ({ d with held:=b }:Du) else d).am=d.am
   split <;> rfl
  refine Ma (by rw [List.length_map]; exact h1) h2 (fun e he=>?_) (by rw [hid]; exact h6) (by rw [ham]; exact h4);obtain ⟨d,hd,rfl⟩:=List.mem_map.1 he;obtain ⟨g1,g2,g3⟩:=h5 d hd
  split
  ·exact ⟨g1,g2,g3⟩
  ·exact ⟨g1,g2,g3⟩
 ·exact h
theorem TA {ds:List Du} {k:Int} {b:Bool} {n:Nat} (h:∀ d∈ds,d.fr<(n:Int)∧d.to<(n:Int)) {e:Du} (he:e∈QD ds k b):e.fr<(n:Int)∧e.to<(n:Int):=by
 unfold QD at he
 split at he
 ·obtain ⟨d,hd,rfl⟩:=List.mem_map.1 he
  split
  ·exact h d hd
  ·exact h d hd
 ·exact h e he
end Go.Proofs.YtibemkominehdaaGreat
namespace Go.Proofs.YtibemkominehdaaGreat
def Le:BitVec 32:=0xedb88320#32
def JL (w:BitVec 32):BitVec 32:=(w >>> 1) ^^^ (if w.getLsbD 0 then Le else 0#32)
def UV (x:BitVec 32):BitVec 32:=if x.getLsbD 31 then ((x ^^^ Le) <<< 1) ||| 1#32 else x <<< 1
def Cm:Nat→BitVec 32→BitVec 32
 | 0,w=>w
 | n+1,w=>Cm n (JL w)
def Nl:Nat→BitVec 32→BitVec 32
 | 0,w=>w
 | n+1,w=>UV (Nl n w)
def DX (c:UInt8):BitVec 32:=BitVec.ofNat 32 c.toNat
def TB (w:BitVec 32) (c:UInt8):BitVec 32:=Cm 8 (w ^^^ DX c)
def moreW (s:BitVec 32) (l:List UInt8):BitVec 32 := ~~~ (l.foldl TB (~~~ s))
def sumW (l:List UInt8):BitVec 32:=moreW 0#32 l
theorem TC (a b:BitVec 32):JL (a ^^^ b)=JL a ^^^ JL b:=by
 unfold JL;rw [BitVec.getLsbD_xor,BitVec.ushiftRight_xor_distrib];cases a.getLsbD 0 <;> cases b.getLsbD 0 <;> simp only [Bool.xor_false,Bool.xor_true,Bool.not_true,Bool.not_false,if_true,Bool.false_eq_true,if_false,BitVec.xor_zero]
 ·ac_rfl
 ·ac_rfl
 ·rw [show a >>> 1 ^^^ Le ^^^ (b >>> 1 ^^^ Le)=a >>> 1 ^^^ b >>> 1 ^^^ (Le ^^^ Le) by ac_rfl,BitVec.xor_self,BitVec.xor_zero]
theorem Ia:∀ (n:Nat) (a b:BitVec 32),Cm n (a ^^^ b)=Cm n a ^^^ Cm n b
 | 0,_,_=>rfl
 | n+1,a,b=>by simp only [Cm]; rw [TC,Ia n]
theorem Fa:∀ (m n:Nat) (w:BitVec 32),Cm n (Cm m w)=Cm (m+n) w
 | 0,n,w=>by simp [Cm]
 | m+1,n,w=>by rw [Nat.succ_add]; simp only [Cm]; exact Fa m n _
def xorL:List UInt8→List UInt8→List UInt8
 | a::l,b::m=>(a ^^^ b)::xorL l m
 | _,_=>[]
theorem Lf:∀ (n:Nat) (w:BitVec 32),(∀ i,i<n→w.getLsbD i=false)→Cm n w=w >>> n
 | 0,w,_=>by simp [Cm]
 | n+1,w,h=>by
  have h0:JL w=w >>> 1:=by
   unfold JL; rw [h 0 (by omega)]; simp
  simp only [Cm];rw [h0,Lf n (w >>> 1) (fun i hi=>by rw [BitVec.getLsbD_ushiftRight]; exact h _ (by omega)),← BitVec.shiftRight_add,Nat.add_comm 1 n]
theorem Mc (c:UInt8) (n:Nat) (hn:n≤24:=by omega):Cm n (DX c <<< n)=DX c:=by
 rw [Lf n _ (fun i hi=>by simp [BitVec.getLsbD_shiftLeft,hi])];have hc:c.toNat<256:=c.toNat_lt;apply BitVec.eq_of_toNat_eq;unfold DX;rw [BitVec.toNat_ushiftRight,BitVec.toNat_shiftLeft,BitVec.toNat_ofNat,Nat.mod_eq_of_lt (by omega:c.toNat<2 ^ 32),Nat.shiftLeft_eq]
 have h1:c.toNat*2 ^ n<2 ^ 32:=by
  have h2:2 ^ n≤2 ^ 24:=Nat.pow_le_pow_right (by omega) hn
  calc c.toNat*2 ^ n≤255*2 ^ 24:=Nat.mul_le_mul (by omega) h2
   _<2 ^ 32:=by decide
 rw [Nat.mod_eq_of_lt h1,Nat.shiftRight_eq_div_pow,Nat.mul_div_cancel _ (Nat.two_pow_pos n)]
def VD (a b c d:UInt8):BitVec 32:=DX a ^^^ (DX b <<< 8) ^^^ (DX c <<< 16) ^^^ (DX d <<< 24)
theorem four (w:BitVec 32) (a b c d:UInt8):[a,b,c,d].foldl TB w=Cm 32 (w ^^^ VD a b c d):=by
 have ha:Cm 32 (DX a)=Cm 32 (DX a):=rfl
 have hb:Cm 24 (DX b)=Cm 32 (DX b <<< 8):=by
  rw [← Fa 8 24,Mc b 8]
 have hc:Cm 16 (DX c)=Cm 32 (DX c <<< 16):=by
  rw [← Fa 16 16,Mc c 16]
 have hd:Cm 8 (DX d)=Cm 32 (DX d <<< 24):=by
  rw [← Fa 24 8,Mc d 24]
 simp only [List.foldl_cons,List.foldl_nil,TB,Ia,Fa];rw [hb,hc,hd,show 8+(8+(8+8))=32 from rfl];simp only [VD,Ia]
 ac_rfl
def burstB (o v:Nat):Bool:=(Nl 32 (BitVec.ofNat 32 v)).toNat % 2 ^ o == 0
end Go.Proofs.YtibemkominehdaaGreat
namespace Go.Proofs.YtibemkominehdaaGreat
open Go.GV
attribute [local irreducible] Al W Wq
theorem Ho (b:UInt8):b.toNat<256:=b.toNat_lt
def VE:List UInt8→Nat
 | []=>0
 | c::l=>c.toNat+256*VE l
def WX (b:List UInt8):Bool:=decide (4≤b.length) && decide ((sumW (b.take (b.length - 4))).toNat=VE (b.drop (b.length - 4)))
end Go.Proofs.YtibemkominehdaaGreat
namespace Go.Proofs.YtibemkominehdaaGreat
open Go.GV
attribute [local irreducible] Al W Wq
theorem Fresh.rdB {w w':World} {t:Nat} {s:Value} {xs:List UInt8} (h:Fresh w w' t 1 s (xs.map bv)):∃ a c,s = .slice a xs.length c∧Rd w' a 1 B8 xs∧xs.length≤c:=by
 obtain ⟨a,n,c,full,rfl,O,hb⟩:=h.ex;have hn:=O.num;subst hn;exact ⟨a,c,rfl,O.rd1 (t:=t) fun x hx=>(hb x hx).1,O.le⟩
theorem Rd.appB {w:World} {a:Option Addr} {l:List UInt8} (R:Rd w a 1 B8 l):∀ j v,(l.map bv)[j]? = some v→∃ p,a=some p∧w.cell? (p.add j)=some v:=Rd.app1 (f:=bv) R
theorem OS.rdB {w:World} {a:Option Addr} {n c:Nat} {t:TypeId} {full:List Value} {xs:List UInt8} (h:OS a n c 1 full (xs.map bv)) (hb:∀ x∈ent a t full,w.heap[x.1]? = some x.2):Rd w a 1 B8 xs:=OS.rd1 h hb
theorem Fresh.since {w0 w w':World} {t s:Nat} {v:Value} {l:List Value} (h:Fresh w w' t s v l) (hx:Ext [] w0 w):Fresh w0 w' t s v l :=
 ⟨let ⟨a,n,c,full,h1,h2,h3⟩:=h.ex; ⟨a,n,c,full,h1,h2,fun x hx'=>⟨(h3 x hx').1,Nat.le_trans hx.size (h3 x hx').2⟩⟩,hx.trans h.ext⟩
theorem Hp (a:Option Addr) (c n:Nat) (l:List UInt8) (w:World) (R:Rd w a 1 B8 l) (hn:l.length=n)  (hm:n≤140737488351232:=by omega):
  Ret Tryz.prog 32 #[.slice a n c] w fun v w'=>Fresh w w' 5 1 v (l.map bv)∧(a=none→v = .slice none 0 0):=by
 subst hn;obtain ⟨w0,rfl⟩:∃ w0,w0=w:=⟨_,rfl⟩;have H:=Ctx.start w0 [];refine Au (fn:=Tryz.f32) Tryz.func32 U [.slice a l.length c] U ?_;refine Ag (Aj U (Ab (Aa (Ax (Ag (An U U (EO U BQ U (Ab (Aa (Ay _ U ?_ ?_))))))))))
 ·intro h1;have ha:a=none:=by simpa using h1
  subst ha
  have hl:l=[]:=by
   cases l with
   | nil=>rfl
   | cons x l=>obtain ⟨b,o,h⟩:=R.some' (by simp); cases h
  subst hl;refine Ag (Aj U (Ab (Aa (A9 (A7 (AD (v:=(.slice _ _ _)) U U U ?_))))));exact ⟨Fresh.nil H _ _,fun _=>rfl⟩
 ·intro h1;refine A2 (Aa (Ag (EQ U BQ FC H ?_)));rintro b5 w H O;refine An U U (Ei U BQ BQ FC by_5 MS U (l.map bv) U U H O (by simp) (VP l) (Rd.appB (R.ext0 H.ext)) ?_);rintro a7 c7 full7 w H O;refine Aj U (Ab (Aa (A9 (AD (v:=(.slice _ _ _)) U U U ?_))));exact ⟨Ctx.fresh H (by simpa using O),fun h=>by subst h; cases h1⟩
def F6 (k:Int):Bool:=decide (k=1) || (decide (k=2) || (decide (k=4) || decide (k=8)))
theorem Nm {k:Int} (h:F6 k=true):∃ n:Nat,k=n∧1≤n∧n≤8:=by
 simp only [F6,Bool.or_eq_true,decide_eq_true_eq] at h;exact ⟨k.toNat,by omega,by omega,by omega⟩
theorem QE (k:Int):∃ z:Int,Option.getD (if k=8 then some (Value.int .i64 64) else if k=4 then some (Value.int .i64 32) else if k=2 then some (Value.int .i64 16) else if k=1 then some (Value.int .i64 8) else none) (Value.int .i64 0) = .int .i64 z∧decide (0<z)=F6 k:=by
 by_cases h8:k=8
 ·exact ⟨64,by simp [h8],by simp [F6,h8]⟩
 by_cases h4:k=4
 ·exact ⟨32,by simp [h4],by simp [F6,h4]⟩
 by_cases h2:k=2
 ·exact ⟨16,by simp [h2],by simp [F6,h2]⟩
 by_cases h1:k=1
 ·exact ⟨8,by simp [h1],by simp [F6,h1]⟩
 exact ⟨0,by simp [h8,h4,h2,h1],by simp [F6,h8,h4,h2,h1]⟩
theorem Lg (k:Int) (w:World):Ret Tryz.prog 148 #[.int .i64 k] w fun v w'=>v = .bool (F6 k)∧Ext [] w w':=by
 obtain ⟨w0,rfl⟩:∃ w0,w0=w:=⟨_,rfl⟩;have H:=Ctx.start w0 [];refine Au (fn:=Tryz.f148) Tryz.func148 U [.int .i64 k] U ?_;refine Ag (Am U (Ab (Aa (Ag (Js .i64 U H ?_)))));rintro b4 o4 w hM H;refine Gk (.int _ _) U J3 E0 U U U H at0 hM ?_;rintro o w hM H;refine Gk (.int _ _) U J3 E0 U U U H at0 hM ?_;rintro o w hM H;refine Gk (.int _ _) U J3 E0 U U U H at0 hM ?_;rintro o w hM H;refine Gk (.int _ _) U J3 E0 U U U H at0 hM ?_;rintro o w hM H;refine M1 U U (NL U U (Ab (Aa (Ag (M1 U U (Ad U (Qb U J3 E0 zv_3 U U H at0 hM ?_)))))));simp only [Qa,R3];obtain ⟨z,hz,hzb⟩:=QE k;rw [hz];refine CP U U (Am U (Ab (Aa (A9 (AD (v:=(.bool _)) U U U ?_)))));exact ⟨congrArg Value.bool hzb,H.ext⟩
def Bh (n k:Nat):List UInt8:=(List.range k).map fun i=>UInt8.ofNat (n / 2 ^ (8*(k - 1 - i)))
theorem Bg (n k:Nat):(Bh n k).length=k:=by simp [Bh]
theorem Lh {n k i:Nat} (h:i<k):(Bh n k).take (i+1)=(Bh n k).take i++[UInt8.ofNat (n / 2 ^ (8*(k - 1 - i)))]:=Gh (Ds h)
theorem Ib (x:Nat):Value.int .u8 ((x % 256:Nat):Int)=bv (UInt8.ofNat x):=by
 unfold bv; congr 2
def putB (l:List UInt8) (n:Nat) (k:Int):List UInt8:=bif F6 k then l++Bh n k.toNat else l
set_option maxHeartbeats 1000000 in
theorem Ic (a:Option Addr) (c m:Nat) (l:List UInt8) (n:Nat) (k:Int) (w:World) (R:Rd w a 1 B8 l) (hml:l.length=m) (_:n<18446744073709551616)  (hm:m≤140737488351231:=by omega):
  Ret Tryz.prog 117 #[.slice a m c,.int .u64 (n:Int),.int .i64 k] w fun v w'=>Fresh w w' 5 1 v ((putB l n k).map bv):=by
 subst hml;obtain ⟨w0,rfl⟩:∃ w0,w0=w:=⟨_,rfl⟩;refine Au (fn:=Tryz.f117) Tryz.func117 U [.slice a l.length c,.int .u64 (n:Int),.int .i64 k] U ?_;refine Ag (Aj U (Ab (Aa (Ag (An U U (Ai Pm (Hp a c l.length l _ R U) U ?_))))));rintro v w ⟨F,-⟩;obtain ⟨a7,n7,c7,full7,rfl,O,hb⟩:=F.ex;have hn7:n7=l.length:=OS.num O;subst hn7;have H:Ctx w0 [] w (ent a7 5 full7):=⟨F.ext,fun x hx=>(hb x hx).1,DO,fun x hx => .inr (hb x hx).2⟩;refine Aj U (Ab (Aa (Ax (Ag (Ad U (Ai Sk (Lg k _) U ?_))))));rintro v w ⟨rfl,hx⟩;replace H:=H.call hx;refine C7 U (Ab (Aa (Ay _ U ?_ ?_)))
 ·intro h1;replace h1:=Df h1;refine Ag (An U U (Aj U (Ab (Aa (A9 (A7 (AD (v:=(.slice _ _ _)) U U U ?_)))))));rw [putB,h1];exact Ctx.fresh (L:=[]) H O
 ·intro h1;replace h1:=Dg h1;obtain ⟨q,rfl,hq1,hq8⟩:=Nm h1;rw [putB,h1,show ((q:Int)).toNat=q from rfl];refine A2 (Aa (Ax (Ag (Ad U (Ad U (Ab (Aa (A4 (Bt 2147418496 (α:=Nat × Option Addr × Nat × List Value) (fun x=>[(16,.int .i64 x.1),(7,.slice x.2.1 (l.length+x.1) x.2.2.1)]) (fun x w'=>x.1≤q∧Ctx w0 [] w' (ent x.2.1 5 x.2.2.2)∧OS x.2.1 (l.length+x.1) x.2.2.1 1 x.2.2.2 ((l++(Bh n q).take x.1).map bv)) (fun x=>q - x.1) (0,a7,c7,full7) U ?_ ?_ ?_)))))))))
  ·exact ⟨rfl,rfl,trivial⟩
  ·exact ⟨Nat.zero_le _,H,by simpa using O⟩
  ·rintro ⟨i,a7,c7,full7⟩ j w ⟨hi,H,O⟩; dsimp only at hi H O; dsimp only;refine Ag (Bu U U (Ab (Aa (Ax (Ay _ U ?_ ?_)))))
   ·intro h2;replace h2:=AX h2;refine A2 (Aa (Ax (A4 (Ag (Ad U (Ae U (Ab (Aa (A5 (An U U (Ad U ?_)))))))))));refine Ad U (AN U U ?_);refine Ad U (AN U U ?_);refine C1 U U ?_;rw [show (8:Int)*((q:Int) - 1 - (i:Int))=((8*(q - 1 - i):Nat):Int) from by omega];refine Eo U U U ?_;refine Iu U U CH Er ?_;rw [Ib];refine Cn _ (.int _ _) BQ FC MS U U U U H ?_;rintro b28 w - H;refine C2 (L:=[]) BQ BQ FC by_5 MS U U U H O U (by simp [AR]) ?_;rintro a9 c9 full9 w H O;refine Aj U (Ab (AU (Aa (A5 (A3 U U ?_)))));refine Ad U (Ab (Aa ?_));refine ⟨(i+1,a9,c9,full9),rfl,⟨rfl,rfl,trivial⟩,⟨by omega,H,?_⟩,by dsimp only; omega⟩;dsimp only
    have O':OS a9 (l.length+(i+1)) c9 1 full9 ((l++(Bh n q).take i).map bv++[UInt8.ofNat (n / 2 ^ (8*(q - 1 - i)))].map bv):=O;rw [← List.map_append,List.append_assoc,← Lh (by omega)] at O';exact O'
   ·intro h2;replace h2:=AY h2;have hiq:i=q:=by omega
    subst hiq;refine Bs (Ao (Ao (AK (Aa (Ag (An U U (Aj U (Ab (Aa (A9 (AD (v:=(.slice _ _ _)) U U U ?_)))))))))));have hl:(Bh n i).take i=Bh n i:=List.take_of_length_le (by rw [Bg]; exact Nat.le_refl _);rw [hl] at O;exact Ctx.fresh (L:=[]) H O
def numN (l:List UInt8):Nat:=l.foldl (fun n c=>n*256+c.toNat) 0
theorem Ie (l:List UInt8) (c:UInt8):numN (l++[c])=numN l*256+c.toNat:=by simp [numN]
theorem Md (l:List UInt8):numN l<256 ^ l.length:=by
 have h:∀ (l:List UInt8) (n k:Nat),n<256 ^ k→l.foldl (fun n c=>n*256+c.toNat) n<256 ^ (k+l.length):=by
  intro l
  induction l with
  | nil=>intro n k h; simpa using h
  | cons c l ih =>
   intro n k h;have hc:=Ho c;have:=ih (n*256+c.toNat) (k+1) (by rw [Nat.pow_succ]; omega)
   simpa [Nat.add_assoc,Nat.add_comm 1] using this
 have:=h l 0 0 (by simp);rw [Nat.zero_add] at this;exact this
theorem TD {l:List UInt8} {i:Nat} {c:UInt8} (h:l[i]? = some c) (hi:i<8:=by omega):(numN (l.take i)*2 ^ 8 % 18446744073709551616) ||| c.toNat=numN (l.take (i+1)):=by
 have h1:=Md (l.take i);have hc:=Ho c;have hlen:(l.take i).length≤7:=by rw [List.length_take]; omega
 have h2:256 ^ (l.take i).length≤256 ^ 7:=Nat.pow_le_pow_right (by omega) hlen;have h3:(256:Nat) ^ 7=72057594037927936:=by decide
 rw [Gh h,Ie,Nat.mod_eq_of_lt (by omega),Nat.mul_comm,← Nat.two_pow_add_eq_or_of_lt (by omega)]
def F7 (l:List UInt8) (at' k:Int):Int:=bif F6 k && (decide (0≤at') && decide (at'≤l.length)) then (bif decide (k≤(l.length:Int) - at') then 0 else 5) else 1
def IC (l:List UInt8) (at' k:Int):Value:=bif decide (F7 l at' k=0) then .tuple #[.int .u64 (numN ((l.drop at'.toNat).take k.toNat):Int),.int .i64 (at'+k),.int .i64 0] else .tuple #[.int .u64 0,.int .i64 0,.int .i64 (F7 l at' k)]
set_option maxHeartbeats 1000000 in
theorem TE (a:Option Addr) (c m:Nat) (l:List UInt8) (at' k:Int) (w:World) (R:Rd w a 1 B8 l) (hml:l.length=m) (hc:l.length≤c)  (hm:m≤9223372036854775799:=by omega):
  Ret Tryz.prog 91 #[.slice a m c,.int .i64 at',.int .i64 k] w fun v w'=>v=IC l at' k∧Ext [] w w':=by
 subst hml;obtain ⟨w0,rfl⟩:∃ w0,w0=w:=⟨_,rfl⟩;have H:=Ctx.start w0 [];refine Au (fn:=Tryz.f91) Tryz.func91 U [.slice a l.length c,.int .i64 at',.int .i64 k] U ?_;refine Ag (Ae U (Ae U (Ae U (Ab (Aa (Ax (A4 (Ax (Ag (Ad U ?_))))))))));refine Ai Sk (Lg k _) U ?_;rintro v w ⟨rfl,hx⟩;replace H:=H.call hx;refine C7 U (Am U (Ab (Aa (FM 11 U ?_ ?_))))
 ·intro h1;replace h1:=Df h1;have he:F7 l at' k=1:=by unfold F7; rw [h1]; rfl
  refine A2 (Aa (Lw U (Ag (Ae U (Ae U (Ae U (Ab (Aa (A9 (Bd (A7 (Jg (v1:=(.int _ _)) (v2:=(.int _ _)) (v3:=(.int _ _)) U U U U U ?_))))))))))));exact ⟨by rw [IC,he]; rfl,H.ext⟩
 ·intro h1;replace h1:=Dg h1;refine Ag (Ad U (Bu U U (Am U (Ab (Aa (FM 11 U ?_ ?_))))))
  ·intro h2;replace h2:=AX h2;have he:F7 l at' k=1:=by unfold F7; rw [decide_eq_false (show ¬ 0≤at' by omega),Bool.false_and,Bool.and_false]; rfl
   refine A2 (Aa (Lw U (Ag (Ae U (Ae U (Ae U (Ab (Aa (A9 (Bd (A7 (Jg (v1:=(.int _ _)) (v2:=(.int _ _)) (v3:=(.int _ _)) U U U U U ?_))))))))))));exact ⟨by rw [IC,he]; rfl,H.ext⟩
  ·intro h2;replace h2:=AY h2;refine A5 (Ad U (An U U (Bp BQ U (CP U U (Am U (Ab (Aa (FM 11 U ?_ ?_))))))))
   ·intro h3;replace h3:=AX h3;have he:F7 l at' k=1:=by unfold F7; rw [decide_eq_false (show ¬ at'≤(l.length:Int) by omega),Bool.and_false,Bool.and_false]; rfl
    refine Ag (Ae U (Ae U (Ae U (Ab (Aa (A9 (Bd (A7 (Jg (v1:=(.int _ _)) (v2:=(.int _ _)) (v3:=(.int _ _)) U U U U U ?_)))))))));exact ⟨by rw [IC,he]; rfl,H.ext⟩
   ·intro h3;replace h3:=AY h3;obtain ⟨q,rfl,hq1,hq8⟩:=Nm h1;obtain ⟨o,rfl⟩:∃ o:Nat,at'=o:=⟨at'.toNat,by omega⟩
    have hE:F7 l (o:Int) (q:Int)=bif decide ((q:Int)≤(l.length:Int) - (o:Int)) then 0 else 5:=by
     unfold F7; rw [h1,decide_eq_true (show (0:Int)≤(o:Int) by omega),decide_eq_true (show (o:Int)≤(l.length:Int) by omega)]; rfl
    refine Ag (An U U (Bp BQ U (Ad U (AN U U ?_))));refine Ad U (Bu U U (Am U (Ab (Aa (Ay _ U ?_ ?_)))))
    ·intro h4;replace h4:=AX h4;rw [decide_eq_false (by omega)] at hE;refine Ag (Ae U (Ae U (Ae U (Ab (Aa (A9 (Bd (A7 (Jg (v1:=(.int _ _)) (v2:=(.int _ _)) (v3:=(.int _ _)) U U U U U ?_)))))))));exact ⟨by rw [IC,hE]; rfl,H.ext⟩
    ·intro h4;replace h4:=AY h4;rw [decide_eq_true (by omega)] at hE;have R':=((R.ext0 H.ext).cut o c hc).take q;have hl:((l.drop o).take q).length=q:=by rw [List.length_take,List.length_drop]; omega
     refine A2 (AU (Aa (Ag (Ad U (Ad U (A3 U U ?_))))));refine Ae U (Ab (Aa (Ax (Ag (An U U (Ad U (Ad U (Ke U BQ FC U U U ?_))))))));refine Bp BQ U (Ad U (Ab (Aa (A4 ?_))));rw [show ((o:Int)+(q:Int)).toNat - ((o:Int)).toNat=q by omega];refine Bt 70300024702016 (α:=Nat) (fun i=>[(36,.int .i64 i),(6,.int .u64 (numN (((l.drop o).take q).take i):Int))]) (fun i w'=>i≤q∧w=w') (fun i=>q - i) 0 U ?_ ?_ ?_
     ·exact ⟨rfl,rfl,trivial⟩
     ·exact ⟨Nat.zero_le _,rfl⟩
     ·rintro i j _ ⟨hi,rfl⟩;refine Ag (Bu U U (Ab (Aa (Ax (Ay _ U ?_ ?_)))))
      ·intro h5;replace h5:=AX h5;obtain ⟨x,hx⟩:=AV (l:=(l.drop o).take q) (i:=i);have hxb:=Ho x;have hlt:=Md (((l.drop o).take q).take (i+1));have hst:=TD hx;refine A2 (Aa (Ax (A4 (Ag (BC R' BQ FC U U (by omega) ?_)))));refine BN GS U (R'.one (f:=bv) hx) ?_;refine Ae U (Ab (Aa (A5 (Ad U (Ju (n:=8) U U U (by omega) ?_)))));refine Ad U (Cv U Er CH ?_);refine Qd U U U (Nat.mod_lt _ (by decide)) ?_;rw [hst];refine Ae U (Ab (AU (Aa (A5 (A3 U U ?_)))));refine Ad U (Ab (Aa ?_));exact ⟨i+1,rfl,⟨rfl,rfl,trivial⟩,⟨by omega,rfl⟩,by omega⟩
      ·intro h5;replace h5:=AY h5;have hiq:i=q:=by omega
       subst hiq;rw [show ((l.drop o).take i).take i=(l.drop o).take i from List.take_of_length_le (by omega)];refine Bs (Ao (Ao (AK (Aa (Ag (Ad U (Ad U (Ae U (Ae U (Ae U (Ab (Aa (A9 (Jg (v1:=(.int _ _)) (v2:=(.int _ _)) (v3:=(.int _ _)) U U U U U ?_))))))))))))));exact ⟨by rw [IC,hE]; rfl,H.ext⟩
end Go.Proofs.YtibemkominehdaaGreat
namespace Go.Proofs.YtibemkominehdaaGreat
open Go.GV
attribute [local irreducible] Al W Wq
def allZ (l:List UInt8):Bool:=l.all fun b=>b == 0
end Go.Proofs.YtibemkominehdaaGreat
namespace Go.Proofs.YtibemkominehdaaGreat
open Go.GV
attribute [local irreducible] Al W Wq
def le4 (s:Nat):List UInt8:=(List.range 4).map fun i=>UInt8.ofNat (s / 2 ^ (8*i))
def VF (k:UInt8) (l:List UInt8):List UInt8:=k::(Bh l.length 2++(l++List.replicate (505 - l.length) 0))
def sealB (k:UInt8) (l:List UInt8):List UInt8:=VF k l++le4 (sumW (VF k l)).toNat
def TF (k:UInt8) (l:List UInt8):Int:=bif decide (k.toNat=0) then 1 else bif decide (505<l.length) then 6 else 0
structure Bytes (w w':World) (v:Value) (l:List UInt8):Prop where
 ex:∃ a c,v = .slice a l.length c∧Rd w' a 1 B8 l∧l.length≤c∧w.heap.size≤(adr a).block
 ext:Ext [] w w'
def SealPost (k:UInt8) (l:List UInt8) (w:World) (v:Value) (w':World):Prop :=
 (TF k l≠0∧v = .tuple #[.slice none 0 0,.int .i64 (TF k l)]∧Ext [] w w') ∨
 (TF k l=0∧∃ s,v = .tuple #[s,.int .i64 0]∧Bytes w w' s (sealB k l))
def preB (k:UInt8) (l:List UInt8) (z:Nat):List UInt8:=(k::Bh l.length 2)++(l++List.replicate z 0)
end Go.Proofs.YtibemkominehdaaGreat
namespace Go.Proofs.YtibemkominehdaaGreat
open Go.GV
attribute [local irreducible] Al W Wq Wt
def VG (b:List UInt8):UInt8:=(b[0]?).getD 0
def numB (b:List UInt8):Nat:=numN ((b.drop 1).take 2)
def VH (b:List UInt8):List UInt8:=(b.drop 3).take 505
def bodyB (b:List UInt8):List UInt8:=(VH b).take (numB b)
def openB (b:List UInt8):Bool := !decide ((VG b).toNat=0) && (decide (numB b≤505) && allZ ((VH b).drop (numB b)))
def TG (b:List UInt8):Int:=bif !(decide (b.length=512) && WX b) then 9 else bif openB b then 0 else 5
def OpenPost (b:List UInt8) (w:World) (v:Value) (w':World):Prop :=
 (TG b≠0∧v = .tuple #[.int .u8 0,.slice none 0 0,.int .i64 (TG b)]∧Ext [] w w') ∨
 (TG b=0∧∃ s,v = .tuple #[bv (VG b),s,.int .i64 0]∧Fresh w w' 5 1 s ((bodyB b).map bv))
end Go.Proofs.YtibemkominehdaaGreat
namespace Go.Proofs.YtibemkominehdaaGreat
open Go.GV
theorem QF (n k:Nat):Bh n (k+1)=Bh (n / 256) k++[UInt8.ofNat n]:=by
 unfold Bh;rw [List.range_succ,List.map_append]
 congr 1
 ·refine List.map_congr_left fun i hi=>?_;have hi':=List.mem_range.1 hi;rw [Nat.div_div_eq_div_mul,show (256:Nat)=2 ^ 8 from rfl,← Nat.pow_add]
  congr 3
  omega
 ·simp
theorem QG (k:Nat):∀ n,numN (Bh n k)=n % 256 ^ k:=by
 induction k with
 | zero=>intro n; simp [Bh,numN,Nat.mod_one]
 | succ k ih =>
  intro n;rw [QF,Ie,ih];have h1:(UInt8.ofNat n).toNat=n % 256:=by simp [UInt8.toNat_ofNat']
  rw [h1,Nat.pow_succ,Nat.mul_comm (256 ^ k) 256,Nat.mod_mul];omega
end Go.Proofs.YtibemkominehdaaGreat
namespace Go.Proofs.YtibemkominehdaaGreat
open Go.GV
def w64 (n:Int):Nat:=(n % 18446744073709551616).toNat
theorem EJ (n:Int):w64 n<18446744073709551616:=by unfold w64; omega
theorem Me {n:Int} (h0:0≤n:=by omega) (h1:n<18446744073709551616:=by omega):w64 n=n.toNat:=by unfold w64; omega
theorem D1 (n:Int):IntKind.u64.wrap n=((w64 n:Nat):Int):=by
 have h:IntKind.u64.wrap n=n % 18446744073709551616:=rfl;rw [h];unfold w64;omega
def CI (l:List UInt8) (i k:Nat):Nat:=numN ((l.drop i).take k)
theorem DR {l pre post:List UInt8} {n k i:Nat} (h:l=pre++(Bh n k++post)) (hi:pre.length=i):CI l i k=n % 256 ^ k:=by
 subst h hi;unfold CI;rw [List.drop_left,List.take_append_of_le_length (by rw [Bg]; exact Nat.le_refl _),List.take_of_length_le (by rw [Bg]; exact Nat.le_refl _),QG]
theorem JM (l:List UInt8) (i k:Nat):CI l i k<256 ^ k:=by
 unfold CI;have h1:=Md ((l.drop i).take k);have h2:((l.drop i).take k).length≤k:=by rw [List.length_take]; omega
 exact Nat.lt_of_lt_of_le h1 (Nat.pow_le_pow_right (by decide) h2)
theorem fld1 (l:List UInt8) (i:Nat):CI l i 1<256:=JM l i 1
theorem QH (l:List UInt8) (i:Nat):CI l i 2<65536:=JM l i 2
theorem fld4 (l:List UInt8) (i:Nat):CI l i 4<4294967296:=JM l i 4
theorem QI (l:List UInt8) (i:Nat):CI l i 8<18446744073709551616:=JM l i 8
def sgN (b n:Nat):Int:=if n<b then n else (n:Int) - 2*b
def CC (c n:Nat) (k:Ak):List UInt8:=Bh c 4++(Bh n 8++(Bh (w64 k.kd) 1++(Bh (w64 k.a) 1++(Bh (w64 k.b) 2++(Bh (w64 k.x) 8++(Bh (w64 k.w) 2++(Bh (w64 k.u) 8++(Bh (w64 k.id) 8++[]))))))))
theorem Fb (c n:Nat) (k:Ak):(CC c n k).length=42:=by simp [CC,Bg]
def D5 (l:List UInt8):Ak:=⟨CI l 12 1,CI l 13 1,sgN 32768 (CI l 14 2),sgN 9223372036854775808 (CI l 16 8),CI l 24 2,sgN 9223372036854775808 (CI l 26 8),CI l 34 8⟩
def Cz (l:List UInt8):Bool:=decide (l.length=42) && (decide (1≤CI l 12 1) && decide (CI l 12 1≤15))
structure MayB (k:Ak):Prop where
 kd:1≤k.kd∧k.kd≤15
 a:0≤k.a∧k.a≤255
 b : -32768≤k.b∧k.b≤32767
 x : -9223372036854775808≤k.x∧k.x≤9223372036854775807
 w:0≤k.w∧k.w≤65535
 u : -9223372036854775808≤k.u∧k.u≤9223372036854775807
 id:0≤k.id∧k.id≤18446744073709551615
theorem PN {x:Int} (h : -9223372036854775808≤x∧x≤9223372036854775807):sgN 9223372036854775808 (w64 x % 256 ^ 8)=x:=by
 unfold sgN w64
 split <;> omega
theorem UW {x:Int} (h : -32768≤x∧x≤32767):sgN 32768 (w64 x % 256 ^ 2)=x:=by
 unfold sgN w64
 split <;> omega
theorem UX {c n:Nat} {k:Ak} (hc:c<4294967296) (hn:n<18446744073709551616) (h:MayB k):Cz (CC c n k)=true∧CI (CC c n k) 0 4=c∧CI (CC c n k) 4 8=n∧D5 (CC c n k)=k:=by
 obtain ⟨kd,a,b,x,w,u,id⟩:=k;obtain ⟨h1,h2,h3,h4,h5,h6,h7⟩:=h;dsimp only at h1 h2 h3 h4 h5 h6 h7;have e0:=DR (l:=CC c n ⟨kd,a,b,x,w,u,id⟩) (pre:=[]) (n:=c) (k:=4) (i:=0) rfl rfl;have e1:=DR (l:=CC c n ⟨kd,a,b,x,w,u,id⟩) (pre:=Bh c 4) (n:=n) (k:=8) (i:=4) rfl (by rw [Bg]);have e2:=DR (l:=CC c n ⟨kd,a,b,x,w,u,id⟩) (pre:=Bh c 4++Bh n 8) (n:=w64 kd) (k:=1) (i:=12) (by unfold CC; simp only [List.append_assoc]; rfl) (by simp [Bg]);have e3:=DR (l:=CC c n ⟨kd,a,b,x,w,u,id⟩) (pre:=Bh c 4++Bh n 8++Bh (w64 kd) 1) (n:=w64 a) (k:=1) (i:=13) (by unfold CC; simp only [List.append_assoc]; rfl) (by simp [Bg]);have e4:=DR (l:=CC c n ⟨kd,a,b,x,w,u,id⟩) (pre:=Bh c 4++Bh n 8++Bh (w64 kd) 1++Bh (w64 a) 1) (n:=w64 b) (k:=2) (i:=14) (by unfold CC; simp only [List.append_assoc]; rfl) (by simp [Bg])
 have e5:=DR (l:=CC c n ⟨kd,a,b,x,w,u,id⟩) (pre:=Bh c 4++Bh n 8++Bh (w64 kd) 1++Bh (w64 a) 1++Bh (w64 b) 2) (n:=w64 x) (k:=8) (i:=16) (by unfold CC; simp only [List.append_assoc]; rfl) (by simp [Bg]);have e6:=DR (l:=CC c n ⟨kd,a,b,x,w,u,id⟩) (pre:=Bh c 4++Bh n 8++Bh (w64 kd) 1++Bh (w64 a) 1++Bh (w64 b) 2++Bh (w64 x) 8) (n:=w64 w) (k:=2) (i:=24) (by unfold CC; simp only [List.append_assoc]; rfl) (by simp [Bg]);have e7:=DR (l:=CC c n ⟨kd,a,b,x,w,u,id⟩) (pre:=Bh c 4++Bh n 8++Bh (w64 kd) 1++Bh (w64 a) 1++Bh (w64 b) 2++Bh (w64 x) 8++Bh (w64 w) 2) (n:=w64 u) (k:=8) (i:=26) (by unfold CC; simp only [List.append_assoc]; rfl) (by simp [Bg]);have e8:=DR (l:=CC c n ⟨kd,a,b,x,w,u,id⟩) (pre:=Bh c 4++Bh n 8++Bh (w64 kd) 1++Bh (w64 a) 1++Bh (w64 b) 2++Bh (w64 x) 8++Bh (w64 w) 2++Bh (w64 u) 8) (n:=w64 id) (k:=8) (i:=34) (by unfold CC; simp only [List.append_assoc]; rfl) (by simp [Bg])
 have f2:w64 kd % 256 ^ 1=kd.toNat:=by rw [Me]; omega
 have f3:w64 a % 256 ^ 1=a.toNat:=by rw [Me]; omega
 have f6:w64 w % 256 ^ 2=w.toNat:=by rw [Me]; omega
 have f8:w64 id % 256 ^ 8=id.toNat:=by rw [Me]; omega
 rw [f2] at e2;rw [f3] at e3;rw [f6] at e6;rw [f8] at e8;refine ⟨?_,e0.trans (Nat.mod_eq_of_lt (by omega)),e1.trans (Nat.mod_eq_of_lt (by omega)),?_⟩
 ·unfold Cz;rw [Fb,e2,decide_eq_true rfl,decide_eq_true (show 1≤kd.toNat by omega),decide_eq_true (show kd.toNat≤15 by omega)];rfl
 ·unfold D5;rw [e2,e3,e4,e5,e6,e7,e8,UW h3,PN h4,PN h6];rw [Int.toNat_of_nonneg (show 0≤kd by omega),Int.toNat_of_nonneg h2.1,Int.toNat_of_nonneg h5.1,Int.toNat_of_nonneg h7.1]
def EC (l:List Int):List UInt8:=l.flatMap fun x=>Bh (w64 x) 8
theorem Ig (l:List Int):(EC l).length=8*l.length:=by
 induction l with
 | nil=>rfl
 | cons x l ih =>
  show (Bh (w64 x) 8++EC l).length=_;rw [List.length_append,Bg,ih,List.length_cons];omega
theorem O4 {l:List Int} {i:Nat} {x:Int} (h:l[i]? = some x):EC (l.take (i+1))=EC (l.take i)++Bh (w64 x) 8:=by
 rw [Gh h];unfold EC;rw [List.flatMap_append,List.flatMap_cons,List.flatMap_nil,List.append_nil]
def Ef (c n:Nat) (e:Int) (l:List Int):List UInt8:=Bh c 4++(Bh n 8++(Bh (w64 e) 1++(Bh l.length 1++EC l)))
theorem JN (c n:Nat) (e:Int) (l:List Int):(Ef c n e l).length=14+8*l.length:=by
 unfold Ef;simp only [List.length_append,Bg,Ig];omega
theorem Li (c n:Nat) (e x:Int) (l:List Int):CI (Ef c n e (x::l)) 14 8=w64 x:=by
 refine (DR (pre:=Bh c 4++Bh n 8++Bh (w64 e) 1++Bh (x::l).length 1) (n:=w64 x) (k:=8) (i:=14) (post:=EC l) ?_ (by simp [Bg])).trans (Nat.mod_eq_of_lt (EJ x));unfold Ef;simp only [List.append_assoc];rfl
structure Pa where
 c:Nat
 n:Nat
 ask:List UInt8
 rep:List UInt8
end Go.Proofs.YtibemkominehdaaGreat
namespace Go.Proofs.YtibemkominehdaaGreat
open Go.GV
def someK (xs:List Int) (k:Nat):Int:=Bf (fun i=>one (0<xs.getD i 0)) k
def keep4 (rn:List Rnd) (r:Rnd):List Rnd:=(rn++[r]).drop (rn.length - 3)
def rndS (s:Ld) (r:Rnd):Ld:=⟨s.day,WS s.acs s.ds r,WT s.acs s.ds r,s.nx,keep4 s.rn { r with no:=s.no+1,day:=s.day },s.no+1⟩
end Go.Proofs.YtibemkominehdaaGreat
namespace Go.Proofs.YtibemkominehdaaGreat
open Go.GV
structure Rp where
 e:Int
 n:List Int
def rp (l:List Int) (e:Int):Rp:=if e=0 then ⟨0,l⟩ else ⟨e,[]⟩
theorem TH {l:List Int} {e:Int} (h:e≠0:=by decide):rp l e=⟨e,[]⟩:=if_neg h
def JO (acs:List Ac) (k:Int):List Int:=[(Cx acs k).ba,(Cx acs k).re]
def VI (b:Bool):Int:=if b=true then 1 else 0
def getR (s:Ld) (k:Int):Option Rnd:=if k≤s.no∧s.no - k<s.rn.length then s.rn[(k - (s.no - s.rn.length+1)).toNat]? else none
def WY (r:Rnd) (b:Int):Rp :=
 if b < -1∨(r.es.length:Int)+r.N≤b then ⟨1,[]⟩
 else if b = -1 then ⟨0,[r.day,VI r.cmp,r.N,r.es.length,r.ids.length]⟩
 else if (r.es.length:Int)≤b then ⟨0,[r.pot.getD (b - r.es.length).toNat 0]⟩
 else ⟨0,[(r.es.getD b.toNat e0).f,(r.es.getD b.toNat e0).t,(r.es.getD b.toNat e0).cap,(r.es.getD b.toNat e0).cost,r.fl.getD b.toNat 0,if b<r.ids.length then IntKind.i64.wrap (r.ids.getD b.toNat 0) else 0]⟩
def IJ (s:Ld) (a:Ak):Ld :=
 if a.kd=1 then (if s.acs.length<16 then { s with acs:=s.acs++[a00] } else s)
 else if a.kd=2 then { s with acs:=Cy s.acs a.a a.x }
 else if a.kd=3 then { s with acs:=F5 s.acs a.a a.x }
 else if a.kd=4 then { s with acs:=II s.acs a.a a.x }
 else if a.kd=5 then (if (inA s.acs a.a && inA s.acs a.b)=true∧s.day≤a.u then { s with ds:=O1 s.ds s.nx a.a a.b a.x a.w a.u,nx:=T8 s.ds s.nx a.a a.b a.x a.w a.u } else s)
 else if a.kd=6 then { s with ds:=QD s.ds a.id true }
 else if a.kd=7 then { s with ds:=QD s.ds a.id false }
 else if a.kd=8 then { s with ds:=cnlD s.ds a.id }
 else if a.kd=9 then (if s.day≤a.u then { s with day:=a.u,ds:=expD s.ds a.u } else s)
 else s
def Mf (s:Ld) (a:Ak):Rp :=
 if a.kd=1 then rp [s.acs.length] (if s.acs.length<16 then 0 else 6)
 else if a.kd=2 then rp (JO (Cy s.acs a.a a.x) a.a) (Dd s.acs a.a a.x)
 else if a.kd=3 then rp (JO (F5 s.acs a.a a.x) a.a) (Hj s.acs a.a a.x)
 else if a.kd=4 then rp (JO (II s.acs a.a a.x) a.a) (Ox s.acs a.a a.x)
 else if a.kd=5 then (if (inA s.acs a.a && inA s.acs a.b)=false then ⟨10,[]⟩ else if a.u<s.day then ⟨1,[]⟩ else rp [IntKind.i64.wrap s.nx] (QC s.ds s.nx a.a a.b a.x a.w a.u))
 else if a.kd=6 then rp [] (hldC s.ds a.id true)
 else if a.kd=7 then rp [] (hldC s.ds a.id false)
 else if a.kd=8 then rp [] (cnlC s.ds a.id)
 else if a.kd=9 then (if a.u<s.day then ⟨3,[]⟩ else ⟨0,[((s.ds.length - (expD s.ds a.u).length:Nat):Int)]⟩)
 else if a.kd=12 then (if inA s.acs a.a=true then ⟨0,JO s.acs a.a⟩ else ⟨10,[]⟩)
 else if a.kd=13 then (if inA s.acs a.a=true then ⟨0,[WU s.acs s.ds a.a.toNat]⟩ else ⟨10,[]⟩)
 else if a.kd=14 then (match KU s.ds a.id with
  | none=>⟨11,[]⟩
  | some d=>⟨0,[d.fr,d.to,d.am,d.we,d.un,VI d.held]⟩)
 else if a.kd=15 then (match getR s a.id with
  | none=>⟨4,[]⟩
  | some r=>WY r a.b)
 else ⟨1,[]⟩
def CV (s:Ld) (a:Ak) (s':Ld) (p:Rp):Prop :=
 if a.kd=10∨a.kd=11 then
  (4611686018427387904≤s.no∧s'=s∧p=⟨6,[]⟩) ∨
  (s.no<4611686018427387904∧∃ r,PlanR s.acs s.ds (decide (a.kd=11)) r∧s'=rndS s r ∧
   p=⟨0,[IntKind.i64.wrap (s.no+1),LW (opn s.ds) r.fl (opn s.ds).length,someK (r.fl.take (opn s.ds).length) (opn s.ds).length]⟩)
 else s'=IJ s a∧p=Mf s a
theorem TI {s:Ld} (h:s.Ok) (a:Ak) (hu:a.u≤9223372036854775807):(IJ s a).Ok:=by
 unfold IJ
 split
 ·split
  ·rename_i hl
   exact ⟨(T7 h.ac hl).1,h.du,fun d hd=>by have:=h.bk d hd; show _<((s.acs++[a00]).length:Int)∧_<((s.acs++[a00]).length:Int); rw [List.length_append,List.length_singleton]; omega,h.day,h.kept,h.nos,h.may⟩
  ·exact h
 split
 ·obtain ⟨h1,h2,-⟩:=PM h.ac a.a a.x;exact ⟨h1,h.du,fun d hd=>by show _<((Cy s.acs a.a a.x).length:Int)∧_<((Cy s.acs a.a a.x).length:Int); rw [h2]; exact h.bk d hd,h.day,h.kept,h.nos,h.may⟩
 split
 ·obtain ⟨h1,h2,-⟩:=UU h.ac a.a a.x;exact ⟨h1,h.du,fun d hd=>by show _<((F5 s.acs a.a a.x).length:Int)∧_<((F5 s.acs a.a a.x).length:Int); rw [h2]; exact h.bk d hd,h.day,h.kept,h.nos,h.may⟩
 split
 ·obtain ⟨h1,h2,-⟩:=WV h.ac a.a a.x;exact ⟨h1,h.du,fun d hd=>by show _<((II s.acs a.a a.x).length:Int)∧_<((II s.acs a.a a.x).length:Int); rw [h2]; exact h.bk d hd,h.day,h.kept,h.nos,h.may⟩
 split
 ·split
  ·rename_i hb
   refine ⟨h.ac,WW h.du ..,fun d hd=>?_,h.day,h.kept,h.nos,h.may⟩
   change d∈O1 s.ds s.nx a.a a.b a.x a.w a.u at hd
   unfold O1 at hd
   split at hd
   ·rcases List.mem_append.1 hd with h1 | h1
    ·exact h.bk d h1
    ·rw [List.mem_singleton.1 h1];rw [Bool.and_eq_true] at hb;exact ⟨(Fw.1 hb.1.1).2,(Fw.1 hb.1.2).2⟩
   ·exact h.bk d hd
  ·exact h
 split
 ·exact ⟨h.ac,T9 h.du ..,fun d hd=>TA h.bk hd,h.day,h.kept,h.nos,h.may⟩
 split
 ·exact ⟨h.ac,T9 h.du ..,fun d hd=>TA h.bk hd,h.day,h.kept,h.nos,h.may⟩
 split
 ·exact ⟨h.ac,Lc h.du _,fun d hd=>h.bk d (List.mem_filter.1 hd).1,h.day,h.kept,h.nos,h.may⟩
 split
 ·split
  ·rename_i hd
   exact ⟨h.ac,Lc h.du _,fun d hd=>h.bk d (List.mem_filter.1 hd).1,⟨Int.le_trans h.day.1 hd,hu⟩,h.kept,h.nos,h.may⟩
  ·exact h
 ·exact h
def fundI (s:Ld) (a:Ak):Int:=(if a.kd=2∧Dd s.acs a.a a.x=0 then a.x else 0) - (if a.kd=3∧Hj s.acs a.a a.x=0 then a.x else 0)
end Go.Proofs.YtibemkominehdaaGreat
namespace Go.Proofs.YtibemkominehdaaGreat
open Go.GV
theorem add_none {ds:List Du} {nx fr to x w u:Int} (h:QC ds nx fr to x w u≠0):O1 ds nx fr to x w u=ds∧T8 ds nx fr to x w u=nx:=by
 unfold O1 T8;rw [if_neg h,if_neg h];exact ⟨rfl,rfl⟩
end Go.Proofs.YtibemkominehdaaGreat
namespace Go.Proofs.YtibemkominehdaaGreat
open Go.GV
attribute [local irreducible] Al W Wq Wt
abbrev AL (bd:Nat) (x1 x2:Nat × Obj) (a:Option Addr) (n c:Nat) (full:List Value):List (Nat × Obj):=(bd,Bl 173 [.slice a n c])::x1::x2::ent a 51 full
theorem QJ {bd c:Nat} {x1 x2:Nat × Obj} {a:Option Addr} {full:List Value} {acs:List Ac} {S:List Nat} {w0 w:World} (H0:Ctx w0 S w (AL bd x1 x2 a acs.length c full)) (O:OS a acs.length c 2 full (acs.flatMap Cs))  (hn:acs.length≤1000000:=by omega):
  Ret Tryz.prog 93 #[ptr bd] w fun v w'=>(16≤acs.length→v = .tuple #[.int .i64 0,.int .i64 6]∧Ctx w0 S w' (AL bd x1 x2 a acs.length c full)) ∧
   (acs.length<16→v = .tuple #[.int .i64 (acs.length:Int),.int .i64 0]∧∃ a' c' full',OS a' (acs++[a00]).length c' 2 full' ((acs++[a00]).flatMap Cs)∧Ctx w0 S w' (AL bd x1 x2 a' (acs++[a00]).length c' full')):=by
 have H:=H0;refine Au (fn:=Tryz.f93) Tryz.func93 U [.pointer (some ⟨bd,0,none⟩)] U ?_;refine Ag (Ae U (Ae U (Ab (Aa (Ax (A4 (Ag (AA U (Cg LF U ?_)))))))));refine Am U (Ab (Aa (Ay _ U ?_ ?_)))
 ·intro h0;cases h0
 ·intro h0;refine Ag (AA U (Bb U (Ah Di U (AH EA U H at0 U (Bp CM U (Ci U U (Am U (Ab (Aa (Ay _ U ?_ ?_))))))))))
  ·intro h1;replace h1:=AX h1;refine Ag (Ae U (Ae U (Ab (Aa (A9 (Bd (A7 (C6 (v1:=(.int _ _)) (v2:=(.int _ _)) U U U U ?_))))))));exact ⟨fun _=>⟨rfl,H⟩,fun h=>by omega⟩
  ·intro h1;replace h1:=AY h1;refine A2 (AU (Aa (Ag (AA U (AA U (Bb U (Ah Di U (AH EA U H at0 U (Bn [.int .i64 0,.int .i64 0] V0 I8 ?_)))))))));refine Cn _ (.agg _) CM Dj I8 U U U U H ?_;rintro b20 w - H;refine C2 (L:=[_,_,_]) CM CM Dj Vu I8 U U U H O U (fun v hv=>by simp  at hv; rcases hv with rfl | rfl <;> rfl) ?_;rintro a' c' full' w H O;refine Bb U (Ah Di U (Ck (.slice _ _ _) sz_39 U U U H at0 (by (simp; done)) ?_));rintro w H;refine Ab (Aa (Ag (AA U (Bb U (Ah Di U (AH EA U H at0 U (Bp CM U (AN U U ?_))))))));refine Ae U (Ae U (Ab (Aa (A9 (C6 (v1:=(.int _ _)) (v2:=(.int _ _)) U U U U ?_)))));refine ⟨fun h=>by omega,fun _=>⟨?_,a',c',full',?_,?_⟩⟩
   ·rw [show (((acs.length+1:Nat):Int) - 1)=(acs.length:Int) by omega]
   ·rw [List.flatMap_append,List.length_append]; exact O
   ·rw [List.length_append]; exact H
structure Qk where
 e:Int
 fid:FuncId
 cl:List Value
 b:Bool
abbrev QK (q:Qk):List Value:=[.int .i64 q.e,.func (.func q.fid) #[] q.cl.toArray]
theorem TJ (q:Qk):∀ v∈QK q,AR v=true:=by
 intro v hv
 rcases List.mem_cons.1 hv with rfl | hv
 ·rfl
 ·rw [List.mem_singleton.1 hv]; rfl
def ID:List Qk→Int
 | []=>0
 | q::qs=>if q.b=false then q.e else ID qs
theorem PO:∀ {qs:List Qk} {i:Nat} {q:Qk},qs[i]? = some q→q.b=false→(∀ (j:Nat) (p:Qk),j<i→qs[j]? = some p→p.b=true)→ID qs=q.e
 | [],_,_,h,_,_=>by cases h
 | p::qs,0,q,h,hb,_=>by
  cases h;exact if_pos hb
 | p::qs,i+1,q,h,hb,ha=>by
  unfold ID;rw [if_neg (by rw [ha 0 p (by omega) rfl]; decide)];exact PO (show qs[i]? = some q from h) hb fun j r hj hr=>ha (j+1) r (by omega) hr
theorem Nn:∀ {qs:List Qk},(∀ q∈qs,q.b=true)→ID qs=0
 | [],_=>rfl
 | q::qs,h=>by
  unfold ID;rw [if_neg (by rw [h q (List.mem_cons_self ..)]; decide)];exact Nn fun p hp=>h p (List.mem_cons_of_mem _ hp)
def Ih (acs:List Ac) (k:Int) (qs:List Qk):Int:=if inA acs k=false then 10 else ID qs
def AcsAt (w w':World) (a:Option Addr) (n c:Nat) (full:List Value) (acs:List Ac):Prop :=
 ∃ full',OS a n c 2 full' (acs.flatMap Cs)∧(∀ x∈ent a 51 full',w'.heap[x.1]? = some x.2)∧Ext ((ent a 51 full).map (·.1)) w w'
set_option maxRecDepth 20000 in
set_option maxHeartbeats 1000000 in
theorem TK {bd c cq:Nat} {a aq:Option Addr} {full:List Value} {acs:List Ac} {qs:List Qk} {k:Int} {fid:FuncId} {cl:List Value} {e:Ac} (w:World) (hd:w.heap[bd]? = some (Bl 173 [.slice a acs.length c])) (O:OS a acs.length c 2 full (acs.flatMap Cs)) (hb:∀ x∈ent a 51 full,w.heap[x.1]? = some x.2)
  (Rq:Rd w aq 2 QK qs) (hql:qs.length≤1000) (hq:∀ q∈qs,Aq Tryz.prog q.fid=true∧q.e≠0∧∀ w',Ext [] w w'→Ret Tryz.prog q.fid q.cl.toArray w' fun v w''=>v = .bool q.b∧Ext [] w' w'')
  (hfc:Aq Tryz.prog fid=true) (hdo:∀ q w',a=some ⟨q,0,none⟩→inA acs k=true→ID qs=0→Ext [] w w'→Ret Tryz.prog fid (Value.pointer (some ⟨q,0+k.toNat*2,none⟩)::cl).toArray w' fun _ w''=>∃ full',OS a acs.length c 2 full' ((Gw acs k e).flatMap Cs)∧Ctx w' [q] w'' [(q,Bl 51 full')])  (hn:acs.length≤1000000:=by omega):
  Ret Tryz.prog 149 #[ptr bd,.int .i64 k,.func (.func fid) #[] cl.toArray,.slice aq qs.length cq] w fun v w'=>v = .int .i64 (Ih acs k qs) ∧
   AcsAt w w' a acs.length c full (if Ih acs k qs=0 then Gw acs k e else acs):=by
 obtain ⟨w1,rfl⟩:∃ w1,w1=w:=⟨_,rfl⟩;have H:=Ctx.start w1 [];have hsame:∀ w',Ext [] w1 w'→AcsAt w1 w' a acs.length c full acs:=fun w' hx=>⟨full,O,fun x hxm=>hx.to (hb x hxm) (by simp),hx.mono (by simp)⟩;unfold Ih;refine Au (fn:=Tryz.f149) Tryz.func149 U [.pointer (some ⟨bd,0,none⟩),.int .i64 k,.func (.func fid) #[] cl.toArray,.slice aq qs.length cq] U ?_;refine Ag (Ae U (Ab (Aa (Ax (A4 (Ag (AA U (Cg LF U ?_))))))));refine Am U (Ab (Aa (Ay _ U ?_ ?_)))
 ·intro h0;cases h0
 ·intro h0;refine Ax (Ag (Ad U (Bu U U (Am U (Ab (Aa (FM 14 U ?_ ?_)))))))
  ·intro h1;replace h1:=AX h1
   have hi:inA acs k=false:=by cases h:inA acs k with | false=>rfl | true=>have:=Fw.1 h; omega
   refine A2 (Aa (Lw U (Ag (Ae U (Ab (Aa (A9 (Bd (A7 (AD (v:=(.int _ _)) U U U ?_))))))))));rw [if_pos hi,if_neg (by decide)];exact ⟨rfl,hsame _ H.ext⟩
  ·intro h1;replace h1:=AY h1;refine A5 (Ad U (AA U (Bb U (Ah Di U (BN EA U ((H.old (A6 hd _) (by simp))) ?_)))));refine Bp CM U (Ci U U (Am U (Ab (Aa (FM 14 U ?_ ?_)))))
   ·intro h2;replace h2:=AX h2
    have hi:inA acs k=false:=by cases h:inA acs k with | false=>rfl | true=>have:=Fw.1 h; omega
    refine Ag (Ae U (Ab (Aa (A9 (Bd (A7 (AD (v:=(.int _ _)) U U U ?_)))))));rw [if_pos hi,if_neg (by decide)];exact ⟨rfl,hsame _ H.ext⟩
   ·intro h2;replace h2:=AY h2;have hi:inA acs k=true:=Fw.2 (by omega);rw [if_neg (by rw [hi]; decide)];refine A2 (AU (Aa (Ax (Ag (An U U (Bp NY U (Ad U (Ab (Aa (A4 (Bt 137371845888 (α:=Nat) (fun i=>[(26,.int .i64 (i:Int))]) (fun i w'=>i≤qs.length∧Ctx w1 [] w' []∧∀ (j:Nat) (p:Qk),j<i→qs[j]? = some p→p.b=true) (fun i=>qs.length - i) 0 U ?_ ?_ ?_)))))))))))
    ·exact ⟨rfl,trivial⟩
    ·exact ⟨Nat.zero_le _,H,fun j p h=>absurd h (Nat.not_lt_zero _)⟩
    ·clear H;rintro i ji w ⟨hii,H,hbb⟩;refine Ag (Bu U U (Ab (Aa (Ax (Ay _ U ?_ ?_)))))
     ·intro h3;replace h3:=AX h3;obtain ⟨q,hqi⟩:=AV (l:=qs) (i:=i);obtain ⟨hqc,hqe,hqr⟩:=hq q (List.mem_of_getElem? hqi);refine A2 (Aa (Ax (A4 (Ag (BC Rq NY LC U U (by rfl) ?_)))));refine Em _ VV LC U U ((Rq.ext0 H.ext).row hqi U) ?_;refine B5 LH H ?_;rintro b10 w - H;refine BB LC U U U (by exact TJ _) H at0 U ?_;rintro w H;refine Ab (Aa (Ag (Ah S5 U (AH ag_24 U H at0 U (Jo U U hqc (hqr _ H.ext) U ?_)))));rintro v w ⟨rfl,hx32⟩;replace H:=H.call hx32;refine C7 U (Ab (Aa (Ay _ U ?_ ?_)))
      ·intro h4;replace h4:=Df h4
       have hqb:q.b=false:=by cases hh:q.b with | false=>rfl | true=>rw [hh] at h4; cases h4
       refine Ag (Ah S4 U (AH KD U H at0 U (Ae U (Ab (Aa (A9 (Bd (A7 (A7 (Bd (A7 (AD (v:=(.int _ _)) U U U ?_))))))))))));rw [PO hqi hqb hbb,if_neg hqe];exact ⟨rfl,hsame _ H.ext⟩
      ·intro h4;replace h4:=Dg h4
       have hqb:q.b=true:=by cases hh:q.b with | true=>rfl | false=>rw [hh] at h4; cases h4
       refine A2 (AU (Aa (A5 (A3 U U ?_))));refine Ad U (Ab (Aa ?_))
       exact ⟨i+1,rfl,⟨rfl,trivial⟩,⟨by omega,H.tail,fun j p hj hp=>by
        rcases Nat.lt_or_ge j i with h5 | h5
        ·exact hbb j p h5 hp
        ·obtain rfl:j=i:=by omega
         rw [hqi] at hp;cases hp
         exact hqb⟩,by omega⟩
     ·intro h3;replace h3:=AY h3;obtain rfl:i=qs.length:=by omega
      have hC:ID qs=0:=Nn fun p hp=>by
       obtain ⟨j,hj⟩:=List.getElem?_of_mem hp;exact hbb j p (Dn hj) hj
      have hin:=Fw.1 hi;obtain ⟨q,hqa⟩:=O.form (by omega);subst hqa;refine Bs (Ao (Ao (AK (Aa (Ag (C3 U (.func _ _ _) U ?_))))));refine AA U (Bb U (Ah Di U (BN EA U ((H.old (A6 hd _) (by simp))) ?_)));refine Ad U (GN U CM Dj U U (by omega) (by omega) ?_);refine Jo U U hfc (hdo q _ U hi hC H.ext) U ?_;rintro v w ⟨full',O',H2⟩;refine Ab (Aa (Ag (Ae U (Ab (Aa (A9 (AD (v:=(.int _ _)) U U U ?_)))))));rw [hC,if_pos rfl];exact ⟨rfl,full',O',fun x hx=>by rw [List.mem_singleton.1 hx]; exact H2.get at0,(H.ext.mono (by simp)).trans H2.ext⟩
end Go.Proofs.YtibemkominehdaaGreat
namespace Go.Proofs.YtibemkominehdaaGreat
open Go.GV
attribute [local irreducible] Al W Wq Wt
theorem TL {bx:Nat} {x:Int} (w:World) (h7:w.heap[bx]? = some (Bl 2 [.int .i64 x])) :
  Ret Tryz.prog 151 #[ptr bx] w fun v w'=>v = .bool (decide (0<x) && Cr x)∧Ext [] w w':=by
 obtain ⟨w0,rfl⟩:∃ w0,w0=w:=⟨_,rfl⟩;have H:=Ctx.start w0 [];refine Au (fn:=Tryz.f151) Tryz.func151 U [.pointer (some ⟨bx,0,none⟩)] U ?_;refine Ag (Am U (Ab (Aa (Ag (BN CT U ((H.old (A6 h7 _) (by simp))) ?_)))));refine CP U U (Ap U (AZ 4 U ?_ ?_))
 ·intro h1;replace h1:=AX h1;refine BN CT U ((H.old (A6 h7 _) (by simp))) ?_;refine Ai NU (Oj x _) U ?_;rintro v w ⟨rfl,rfl⟩;refine Av U (.bool _) U (Am U (Ab (Aa (A9 (AD (v:=(.bool _)) U U U ?_)))));exact ⟨congrArg Value.bool (by rw [Bool.eq_iff_iff]; simp_all; try omega),H.ext⟩
 ·intro h2;replace h2:=AY h2;refine Af U (Af U (AE U (.bool _) U (Am U (Ab (Aa (A9 (AD (v:=(.bool _)) U U U ?_)))))));exact ⟨congrArg Value.bool (by rw [Bool.eq_iff_iff]; simp_all; try omega),H.ext⟩
set_option maxRecDepth 20000 in
theorem TM {q j bx:Nat} {ba x:Int} {full:List Value} (w:World) (h9:w.heap[q]? = some (Bl 51 full)) (hf:full[j]? = some (.int .i64 ba)) (h7:w.heap[bx]? = some (Bl 2 [.int .i64 x])) (hne:bx≠q) (hb:0≤ba∧ba≤4503599627370496) (hx:0≤x∧x≤4503599627370496) :
  Ret Tryz.prog 150 #[.pointer (some ⟨q,j,none⟩),ptr bx] w fun _ w'=>Ctx w [q] w' [(q,Bl 51 (full.set (j+0) (.int .i64 (ba+x))))]:=by
 obtain ⟨w0,rfl⟩:∃ w0,w0=w:=⟨_,rfl⟩;have H:=Ctx.start1 h9;have hn:bx∉[q]:=by rw [List.mem_singleton]; exact hne
 have hj:=Dn hf;refine Au (fn:=Tryz.f150) Tryz.func150 U [.pointer (some ⟨q,j,none⟩),.pointer (some ⟨bx,0,none⟩)] U ?_;refine G6 [([0,1,2,3,4,5],6),([7],8)] (fun z=>z.heap[q]? = some (Bl 51 full)∧z.heap[bx]? = some (Bl 2 [.int .i64 x])) [8] Bz (⟨H.drew.get at0,H.drew.ext.to h7 hn⟩) ?_;refine A0 U U ?_;refine Cw U (BF U (A8 Fm U (BE CT U (fun _ hx=>(by rw [A6 hx.1]; exact hf)) ?_)));refine BE CT U (fun _ hx=>(by rw [A6 hx.2]; rfl)) ?_;refine CZ U U ?_;refine Ba ?_;replace H:=H.drew;refine Bb U (Ab (B1 (⟨H.get at0,H.ext.to h7 hn⟩) (A0 U U ?_)));refine A8 Fm U (Ba (Ck (.int _ _) Ez U U U H at0 (by omega) ?_));rintro w H;refine Ab (Bo U (B6 (CW U U ?_)));exact H
set_option maxRecDepth 20000 in
set_option maxHeartbeats 1000000 in
theorem TN {bx b3 bd c:Nat} {a:Option Addr} {acs:List Ac} {x:Int} (w:World) (h3:w.heap[b3]? = some (Bl 125 [ptr bd])) (h7:w.heap[bx]? = some (Bl 2 [.int .i64 x])) (hd:w.heap[bd]? = some (Bl 173 [.slice a acs.length c])) (R:Rd w a 2 Cs acs)  (hn:acs.length≤1000:=by omega):
  Ret Tryz.prog 152 #[ptr b3,ptr bx] w fun v w'=>v = .bool (decide ((D4 (bas acs++[x])).2=0))∧Ext [] w w':=by
 obtain ⟨w0,rfl⟩:∃ w0,w0=w:=⟨_,rfl⟩;have H:=Ctx.start w0 [];obtain ⟨tt,htt⟩:∃ tt,tt=D4 (bas acs++[x]):=⟨_,rfl⟩;rw [← htt];refine Au (fn:=Tryz.f152) Tryz.func152 U [.pointer (some ⟨b3,0,none⟩),.pointer (some ⟨bx,0,none⟩)] U ?_;refine Ag (Am U (Ab (Aa (VM (.two [0,2] 1 (.one [] 3 (.one [] 4 (.one [] 5 (.one [6,7,8] 9 (.one [] 10 .stop))))) 3 (.one [] 1 (.one [] 4 (.one [] 5 (.one [6,7,8] 9 (.one [] 10 .stop)))))) (fun z=>Ext [] w0 z) Bz (Ext.drew [] w0) ?_))));refine VN U U U ?_;refine BE HM U (fun _ hx=>(by rw [A6 (hx.to h3 (by simp))]; rfl)) ?_;refine BE CT U (fun _ hx=>(by rw [A6 (hx.to h7 (by simp))]; rfl)) ?_;refine Ba ?_;replace H:=H.drew;refine ⟨?_,?_⟩
 ·skip
  refine Ai Sh (IA a acs.length c acs _ (H.ext.to hd (by simp)) (R.ext0 H.ext) U) U ?_;rintro v w F;obtain ⟨a3,n3,c3,f3,rfl,O3,hb3⟩:=F.ex;have hl3:=O3.llen;rw [List.length_map,List.length_map] at hl3;replace H:=H.callEnt F.ext hb3 DO;refine Ab (F0 (H.ext) (EF U U ?_));refine Ba (Cn _ (.int _ _) Ch Ez Kj U U U U H ?_);rintro b9 w - H;refine Ab (F0 (H.ext) (EF U U ?_));refine Ba (C2 (L:=[]) Ch Ch Ez by_2 Kj U U U H O3 U (by simp [AR]) ?_);rintro a' c' full' w H O;refine Ab (F0 (H.ext) (EF U U ?_));refine Ba (Ai Sg (PD a' (n3+1) c' (bas acs++[x]) _ (OS.rd1 (f:=Eb) (t:=2) (xs:=bas acs++[x]) (by rw [List.map_append]; exact O) (fun x hx=>H.blk x (List.mem_append_right [] hx))) (by unfold bas; rw [List.length_append,List.length_map]; show acs.length+1=_; omega)) U ?_);rintro v w ⟨rfl,rfl⟩;rw [← htt]
  refine Ab (F0 (H.ext) (EF U U ?_));refine IQ U U (C8 U U (C8 U U (Ba (Ae U (Ab (F0 (H.ext) (EF U U ?_)))))));refine Ba (Ae U (Ab (F0 (H.ext) (Pb ?_))));refine Ag (Ad U (Cp U U (Am U (Ab (Aa (A9 (AD (v:=(.bool _)) U U U ?_)))))));exact ⟨rfl,H.ext⟩
 ·skip
  refine Cn _ (.int _ _) Ch Ez Kj U U U U H ?_;rintro b9 w - H;refine Ab (F0 (H.ext) (EF U U ?_));refine Ba (Ai Sh (IA a acs.length c acs _ (H.ext.to hd (by simp)) (R.ext0 H.ext) U) U ?_);rintro v w F;obtain ⟨a3,n3,c3,f3,rfl,O3,hb3⟩:=F.ex;have hl3:=O3.llen;rw [List.length_map,List.length_map] at hl3;replace H:=H.callEnt F.ext hb3 DO;refine Ab (F0 (H.ext) (EF U U ?_));refine Ba (C2 (L:=[]) Ch Ch Ez by_2 Kj U U U H O3 U (by simp [AR]) ?_);rintro a' c' full' w H O;refine Ab (F0 (H.ext) (EF U U ?_));refine Ba (Ai Sg (PD a' (n3+1) c' (bas acs++[x]) _ (OS.rd1 (f:=Eb) (t:=2) (xs:=bas acs++[x]) (by rw [List.map_append]; exact O) (fun x hx=>H.blk x (List.mem_append_right [] hx))) (by unfold bas; rw [List.length_append,List.length_map]; show acs.length+1=_; omega)) U ?_);rintro v w ⟨rfl,rfl⟩;rw [← htt]
  refine Ab (F0 (H.ext) (EF U U ?_));refine IQ U U (C8 U U (C8 U U (Ba (Ae U (Ab (F0 (H.ext) (EF U U ?_)))))));refine Ba (Ae U (Ab (F0 (H.ext) (Pb ?_))));refine Ag (Ad U (Cp U U (Am U (Ab (Aa (A9 (AD (v:=(.bool _)) U U U ?_)))))));exact ⟨rfl,H.ext⟩
end Go.Proofs.YtibemkominehdaaGreat
namespace Go.Proofs.YtibemkominehdaaGreat
open Go.GV
attribute [local irreducible] Al W Wq Wt
abbrev AcB (bd:Nat) (a:Option Addr) (n c:Nat) (w:World):Prop:=w.heap[bd]? = some (Bl 173 [.slice a n c])
theorem AcsAt.back {w0 w w':World} {a:Option Addr} {n c:Nat} {full:List Value} {acs:List Ac} (h:AcsAt w w' a n c full acs) (hx:Ext [] w0 w):AcsAt w0 w' a n c full acs:=by
 obtain ⟨f,O,hb,he⟩:=h;exact ⟨f,O,hb,(hx.mono (by simp)).trans he⟩
theorem AcsAt.of {w w':World} {a:Option Addr} {n c:Nat} {full:List Value} {acs acs':List Ac} (h:AcsAt w w' a n c full acs) (he:acs=acs'):AcsAt w w' a n c full acs':=he ▸ h
abbrev PR (b3 b5:Nat) (acs:List Ac) (x:Int):List Qk:=[⟨1,151,[ptr b5],decide (0<x) && Cr x⟩,⟨13,152,[ptr b3,ptr b5],decide ((D4 (bas acs++[x])).2=0)⟩]
abbrev drawQ (b3 b4 b5:Nat) (acs:List Ac) (k x:Int):List Qk:=[⟨1,154,[ptr b5],decide (0<x) && Cr x⟩,⟨12,155,[ptr b5,ptr b3,ptr b4],decide (x≤(Cx acs k).ba)⟩]
abbrev rsvQ (b5:Nat) (x:Int):List Qk:=[⟨1,157,[ptr b5],Cr x⟩]
theorem Lj {b3 b5:Nat} {acs:List Ac} {k x:Int}:Ih acs k (PR b3 b5 acs x)=Dd acs k x:=by
 unfold Ih Dd
 cases inA acs k with
 | false=>rfl
 | true =>
  rw [if_neg (by decide),if_neg (by decide)];show (if (decide (0<x) && Cr x)=false then (1:Int) else if decide ((D4 (bas acs++[x])).2=0)=false then 13 else 0)=_
  by_cases h:(D4 (bas acs++[x])).2=0
  ·rw [if_neg (show ¬ (decide ((D4 (bas acs++[x])).2=0)=false) by simpa using h),if_neg (show ¬ (D4 (bas acs++[x])).2≠0 from fun h2=>h2 h)]
  ·rw [if_pos (show decide ((D4 (bas acs++[x])).2=0)=false by simpa using h),if_pos h]
section
variable {bd c:Nat} {a:Option Addr} {full:List Value} {acs:List Ac} {w:World}
theorem QL {q:Nat} {k:Int} {w':World} (O:OS (some ⟨q,0,none⟩) acs.length c 2 full (acs.flatMap Cs)) (h9:w'.heap[q]? = some (Bl 51 full)) (hi:inA acs k=true) :
  full[0+k.toNat*2]? = some (.int .i64 (Cx acs k).ba)∧0+k.toNat*2+1<full.length:=by
 have R:Rd w' (some ⟨q,0,none⟩) 2 Cs acs:=OS.rd (t:=51) O (fun y hy=>by rw [List.mem_singleton.1 hy]; exact h9) (fun _ _=>rfl) (by omega);have h1:w'.cell? ⟨q,0+k.toNat*2+0,none⟩=some (.int .i64 (Cx acs k).ba):=R.fld (Ee hi) rfl (j:=0) rfl;have h2:w'.cell? ⟨q,0+k.toNat*2+1,none⟩=some (.int .i64 (Cx acs k).re):=R.fld (Ee hi) rfl (j:=1) rfl;rw [A6 h9] at h1 h2;exact ⟨h1,Dn h2⟩
theorem QM {b3 b5 b14:Nat} {k x:Int} (hd:AcB bd a acs.length c w) (O:OS a acs.length c 2 full (acs.flatMap Cs)) (hb:∀ x∈ent a 51 full,w.heap[x.1]? = some x.2∧x.1≠b5) (hac:FE acs=0)
  (h3:w.heap[b3]? = some (Bl 125 [ptr bd])) (h5:w.heap[b5]? = some (Bl 2 [.int .i64 x])) (h14:w.heap[b14]? = some (Bl 232 ((PR b3 b5 acs x).flatMap QK))) :
  Ret Tryz.prog 149 #[ptr bd,.int .i64 k,.func (.func 150) #[] [ptr b5].toArray,.slice (some ⟨b14,0,none⟩) 2 2] w fun v w'=>v = .int .i64 (Dd acs k x)∧AcsAt w w' a acs.length c full (Cy acs k x):=by
 have hn16:=(CU.1 hac).1;have R:Rd w a 2 Cs acs:=OS.rd O (fun y hy=>(hb y hy).1) (fun _ _=>rfl) (by omega);refine Ret.mono (TK (qs:=PR b3 b5 acs x) (e:=⟨(Cx acs k).ba+x,(Cx acs k).re⟩) w hd O (fun y hy=>(hb y hy).1) (Rd.of_bl h14 (List.append_nil _).symm fun _ _=>rfl) (show (2:Nat)≤1000 by decide) (fun q hq=>?_) Wg fun q w' hqa hi hC hx=>?_) fun v w' h=>?_
 ·rcases List.mem_cons.1 hq with rfl | hq
  ·exact ⟨Wh,(show (1:Int)≠0 by decide),fun w' hx=>TL w' (hx.to h5 (by simp))⟩
  ·rw [List.mem_singleton.1 hq];exact ⟨Wi,(show (13:Int)≠0 by decide),fun w' hx=>TN w' (hx.to h3 (by simp)) (hx.to h5 (by simp)) (hx.to hd (by simp)) (R.ext0 hx)⟩
 ·subst hqa;obtain ⟨h1,h2⟩:=hb (q,Bl 51 full) (List.mem_singleton.2 rfl);have h9:w'.heap[q]? = _:=hx.to h1 (by simp);have hg:=Hn hac hi;have hC2:Dd acs k x=0:=by rw [← Lj (b3:=b3) (b5:=b5)]; unfold Ih; rw [if_neg (by rw [hi]; decide)]; exact hC
  rcases GF acs k x with ⟨hc,-⟩ | ⟨-,-,h0,hm,-⟩
  ·exact absurd hC2 hc
  ·refine Ret.mono (TM w' h9 (QL O h9 hi).1 (hx.to h5 (by simp)) (fun h=>h2 h.symm) ⟨hg.1.1,hg.1.2⟩ ⟨by omega,(Cd.1 hm).2⟩) fun _ w'' H2=>⟨_,?_,H2⟩;rw [show 0+k.toNat*2+0=k.toNat*2+0 by omega];exact OS.setf O (y:=⟨(Cx acs k).ba+x,(Cx acs k).re⟩) (j:=0) (v := .int .i64 ((Cx acs k).ba+x)) (fun _=>rfl) (Ee hi) (by decide) U
 ·rw [Lj] at h;exact ⟨h.1,h.2.of (by unfold Cy; rfl)⟩
end
set_option maxRecDepth 20000 in
set_option maxHeartbeats 1000000 in
theorem TO {bd c:Nat} {a:Option Addr} {full:List Value} {acs:List Ac} {k x:Int} (w:World) (hd:AcB bd a acs.length c w) (O:OS a acs.length c 2 full (acs.flatMap Cs)) (hb:∀ x∈ent a 51 full,w.heap[x.1]? = some x.2) (hac:FE acs=0) :
  Ret Tryz.prog 95 #[ptr bd,.int .i64 k,.int .i64 x] w fun v w'=>v = .int .i64 (Dd acs k x)∧AcsAt w w' a acs.length c full (Cy acs k x):=by
 obtain ⟨w0,rfl⟩:∃ w0,w0=w:=⟨_,rfl⟩;have H:=Ctx.start w0 [];refine Au (fn:=Tryz.f95) Tryz.func95 U [.pointer (some ⟨bd,0,none⟩),.int .i64 k,.int .i64 x] U ?_;refine Ag (BK _ (.pointer _) U U H ?_);rintro b3 w - H;refine BK _ (.int _ _) U U H ?_;rintro b5 w - H;refine Ae U (Ab (Aa (Ag (AH HM U H at1 U (Ad U (Ea U [ptr b5] U (Ea U [ptr b5] U (Bn (QK ⟨1,151,[ptr b5],true⟩) S7 LH ?_))))))));refine Ea U [ptr b3,ptr b5] U (Bn (QK ⟨13,152,[ptr b3,ptr b5],true⟩) S7 LH ?_);refine Gi ((PR b3 b5 acs x).flatMap QK) U NY LC LH H ?_;rintro b14 w - H
 refine Ai Wf (QM (H.ext.to hd (by simp)) O (fun y hy=>⟨H.ext.to (hb y hy) (by simp),fun hne=>by have h1:=Bq (hb y hy); rw [hne] at h1; have h2:=(H.own _ (List.mem_of_getElem? at1)).elim (fun h=>by cases h) id; dsimp only at h2; omega⟩) hac (H.get at2) (H.get at1) (H.get at0)) U ?_;rintro v w2 ⟨rfl,A⟩;replace A:=A.back H.ext;refine Ae U (Ab (Aa (A9 (AD (v:=(.int _ _)) U U U ?_))));exact ⟨rfl,A⟩
end Go.Proofs.YtibemkominehdaaGreat
namespace Go.Proofs.YtibemkominehdaaGreat
open Go.GV
attribute [local irreducible] Al W Wq Wt
def repD:List Du→Int→Du→List Du
 | [],_,_=>[]
 | d::ds,k,e=>if d.id=k then e::ds else d::repD ds k e
def outD:List Du→Int→List Du
 | [],_=>[]
 | d::ds,k=>if d.id=k then ds else d::outD ds k
def trnD (ds:List Du) (k:Int) (c:Int) (e:Du):List Du:=if c≠0 then ds else if e.am=0 then outD ds k else repD ds k e
end Go.Proofs.YtibemkominehdaaGreat
namespace Go.Proofs.YtibemkominehdaaGreat
open Go.GV
attribute [local irreducible] Al W Wq Wt
end Go.Proofs.YtibemkominehdaaGreat
namespace Go.Proofs.YtibemkominehdaaGreat
open Go.GV
attribute [local irreducible] Al W Wq Wt
section
variable {bd b:Nat} {nx:Int} {o:Obj} {ds:List Du}
end
def midD (ds:List Du) (u:Int) (i:Nat):List Du:=(ds.take i).filter (fun d=>decide (u≤d.un))++ds.drop i
def deadD (ds:List Du) (u:Int) (i:Nat):List Value:=((ds.take i).filter fun d => !decide (u≤d.un)).map fun d => .int .u64 d.id
structure ExS where
 i:Nat
 o:Obj
 a:Option Addr
 c:Nat
 full:List Value
end Go.Proofs.YtibemkominehdaaGreat
namespace Go.Proofs.YtibemkominehdaaGreat
open Go.GV
attribute [local irreducible] Al W Wq Wt
end Go.Proofs.YtibemkominehdaaGreat
namespace Go.Proofs.YtibemkominehdaaGreat
open Go.GV
def newA (kd:Int) (a:Ac) (x:Int):Ac:=if kd=2 then ⟨a.ba+x,a.re⟩ else if kd=3 then ⟨a.ba - x,a.re⟩ else ⟨a.ba,x⟩
def bankC (kd:Int) (acs:List Ac) (k x:Int):Int:=if kd=2 then Dd acs k x else if kd=3 then Hj acs k x else Ox acs k x
def bankA (kd:Int) (acs:List Ac) (k x:Int):List Ac:=if kd=2 then Cy acs k x else if kd=3 then F5 acs k x else II acs k x
def liteC (kd:Int) (is:Bool) (a:Ac) (x:Int):Int :=
 if is=false then 10
 else if kd=2 then (if (decide (0<x) && Cr x)=false then 1 else 0)
 else if kd=3 then (if (decide (0<x) && Cr x)=false then 1 else if a.ba<x then 12 else 0)
 else if Cr x=false then 1 else 0
end Go.Proofs.YtibemkominehdaaGreat
namespace Go.Proofs.YtibemkominehdaaGreat
open Go.GV
end Go.Proofs.YtibemkominehdaaGreat
namespace Go.Proofs.YtibemkominehdaaGreat
open Go.GV
attribute [local irreducible] Al W Wq Wt
def Lk (N M:Int) (xs ys:List Ed):Bool:=decide (N=M) && decide (xs=ys)
set_option maxRecDepth 20000 in
set_option maxHeartbeats 2000000 in
theorem OB (N M:Int) (a b:Option Addr) (n c m d:Nat) (xs ys:List Ed) (w:World) (R:Rd w a 4 DI xs) (hn:xs.length=n) (hn2:n≤1000000) (Ry:Rd w b 4 DI ys) (hm:ys.length=m) (hm2:m≤1000000) :
  Ret Tryz.prog 171 #[Qs N a n c,Qs M b m d] w fun v w'=>v = .bool (Lk N M xs ys)∧Ext [] w w':=by
 subst hn hm;obtain ⟨w0,rfl⟩:∃ w0,w0=w:=⟨_,rfl⟩;have H:=Ctx.start w0 [];refine Au (fn:=Tryz.f171) Tryz.func171 U [Qs N a xs.length c,Qs M b ys.length d] U ?_;refine Ag (BK [.int .i64 N,.slice a xs.length c] (.agg _) U U H ?_);rintro b2 w - H;refine BK [.int .i64 M,.slice b ys.length d] (.agg _) U U H ?_;rintro b3 w - H;refine Am U (Ab (Aa (Ax (Ag (CK (α:=Unit) 1048512 (fun _=>[(19,.bool (!(decide (N=M) && decide (xs.length=ys.length))))]) (fun _ w'=>Ctx w0 [] w' [(b3,Bl 75 [.int .i64 M,.slice b ys.length d]),(b2,Bl 75 [.int .i64 N,.slice a xs.length c])]) U ?_ ?_)))))
 ·refine Ah Pu U (AH ER U H at1 U (Ah Pu U (AH ER U H at0 U (CQ U U (Ap U (AZ 11 U ?_ ?_))))))
  ·intro h1;replace h1:=Dw h1;refine Af U (Af U (Af U (Af U (Af U (Af U (Af U (Av U (.bool _) U (Ab ?_))))))));exact ⟨rfl,(),rfl,⟨congrArg Value.bool (by rw [Bool.eq_iff_iff]; simp_all; try omega),trivial⟩,H⟩
  ·intro h2;replace h2:=Dx h2;refine Ah Fo U (AH KG U H at1 U (Bp GX U (Ah Fo U (AH KG U H at0 U (Bp GX U (CQ U U (AE U (.bool _) U (Ab ?_))))))));exact ⟨rfl,(),rfl,⟨congrArg Value.bool (by rw [Bool.eq_iff_iff]; simp_all; try omega),trivial⟩,H⟩
 rintro - j19 w H;refine Ay _ U ?_ ?_
 ·intro h1;replace h1:=Df h1;refine Ag (Am U (Ab (Aa (A9 (A7 (AD (v:=(.bool _)) U U U ?_))))));have h1':¬ (N=M∧xs.length=ys.length):=by simpa using h1
  refine ⟨congrArg Value.bool ?_,H.ext⟩;unfold Lk
  by_cases h2:N=M
  ·rw [decide_eq_true h2,decide_eq_false (fun h=>h1' ⟨h2,by rw [h]⟩)]; rfl
  ·rw [decide_eq_false h2]; rfl
 ·intro h1;replace h1:=Dg h1;have h1':N=M∧xs.length=ys.length:=by simpa using h1
  have hsb:Lk N M xs ys=decide (xs=ys):=by unfold Lk; rw [decide_eq_true h1'.1]; rfl
  have hle:=h1'.2;rw [hsb];refine A2 (Aa (Ax (Ag (Ae U (Ab (Aa (A4 (Bt 274876858416 (α:=Nat) (fun i=>[(5,.int .i64 (i:Int))]) (fun i w'=>i≤xs.length∧Ctx w0 [] w' [(b3,Bl 75 [.int .i64 M,.slice b ys.length d]),(b2,Bl 75 [.int .i64 N,.slice a xs.length c])]∧∀ (k:Nat) (x y:Ed),k<i→xs[k]? = some x→ys[k]? = some y→x=y) (fun i=>xs.length - i) 0 U ?_ ?_ ?_))))))))
  ·exact ⟨rfl,trivial⟩
  ·exact ⟨Nat.zero_le _,H,fun k x y h=>absurd h (Nat.not_lt_zero _)⟩
  ·clear H;rintro i j w ⟨hi,H,hb⟩;refine Ax (Ag (Ad U (Ah Fo U (AH KG U H at1 U (Bp GX U (Bu U U (Ab (Aa (Ay _ U ?_ ?_)))))))))
   ·intro h2;replace h2:=AX h2;obtain ⟨x,hx⟩:=AV (l:=xs) (i:=i);obtain ⟨y,hy⟩:=AV (l:=ys) (i:=i);refine A2 (Aa (Ax (A4 (Hw (fun x=>x=_) Bz U ?_))));refine BG Fo U (DS KG U (by rintro _ rfl; exact H.drew) at1 U ?_);refine AJ U (Cf R GX HP U U (by rfl) ?_);refine Gy _ U Sc HP U U (by rintro _ rfl; exact ((R.ext0 H.drew.ext).row hx rfl)) ?_;refine BG Fo U (DS KG U (by rintro _ rfl; exact H.drew) at0 U ?_);refine AJ U (Cf Ry GX HP U U (by rfl) ?_);refine Gy _ U Sc HP U U (by rintro _ rfl; exact ((Ry.ext0 H.drew.ext).row hy rfl)) ?_;refine RS (ks:=[true,true,true,true]) (xs:=DI x) (ys:=DI y) (decide (x=y)) U U U ⟨rfl,rfl,rfl,rfl,trivial⟩ (Tt x y) ?_;refine BZ ?_;rintro _ rfl;replace H:=H.drew;refine Ay _ U ?_ ?_
    ·intro h3;refine Ag (Am U (Ab (Aa (A9 (Bd (A7 (A7 (Bd (A7 (AD (v:=(.bool _)) U U U ?_))))))))));have hne:¬ x=y:=by simpa using h3
     exact ⟨congrArg Value.bool (decide_eq_false fun h=>by subst h; rw [hx] at hy; injection hy with hy; exact hne hy).symm,H.ext⟩
    ·intro h3;refine A2 (AU (Aa (A5 (Ad U (A3 U U ?_)))));refine Ae U (Ab (Aa ?_));have heq:x=y:=by simpa using h3
     refine ⟨i+1,rfl,⟨rfl,trivial⟩,⟨by omega,H,fun k x' y' hk hx' hy'=>?_⟩,by omega⟩
     rcases Nat.lt_or_ge k i with h7 | h7
     ·exact hb k x' y' h7 hx' hy'
     ·obtain rfl:k=i:=by omega
      rw [hx] at hx'; rw [hy] at hy';cases hx'; cases hy';exact heq
   ·intro h2;replace h2:=AY h2;refine Bs (Ao (Ao (AK (Aa (Ag (Am U (Ab (Aa (A9 (AD (v:=(.bool _)) U U U ?_))))))))));have hin:i=xs.length:=by omega
    rw [hin] at hb;exact ⟨congrArg Value.bool (decide_eq_true (LS hle hb)).symm,H.ext⟩
def RdAt (w:World) (br:Nat) (ds:List Du):Prop:=∃ a c nx,w.heap[br]? = some (Bl 155 [.slice a ds.length c,.int .u64 nx])∧Rd w a 7 FW ds
theorem RdAt.ext0 {w w':World} {br:Nat} {ds:List Du} (h:RdAt w br ds) (he:Ext [] w w'):RdAt w' br ds:=by
 obtain ⟨a,c,nx,h1,h2⟩:=h;exact ⟨a,c,nx,he.to h1 (by simp),h2.ext0 he⟩
end Go.Proofs.YtibemkominehdaaGreat
