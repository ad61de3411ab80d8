/- Part 13 of the proof. The last text: WitnessBest: for every input the law answers true, and turns nothing. -/
import Derived.Test.YtapphbmlkdhnmaaGreatPart2
import Derived.Test.YtapphbmlkdhnmaaGreatPart12
import Derived.Test.YtapphbmlkdhnmaaGreatPart4
import Derived.Test.YtapphbmlkdhnmaaGreatPart10
import Derived.Test.YtapphbmlkdhnmaaGreatRows
import Derived.Test.YtapphbmlkdhnmaaGreatPart3
/- What may be paid is worth no more than the round that is planned: plain law. -/
namespace Go.Proofs.YtapphbmlkdhnmaaGreat
open Go.GV

theorem Nb {rs:List Int} {os:List Du} {net:Bool} {xs:List Int} (hl:os.length≤xs.length) (v:Nat):∀ k,k≤os.length→(∀ (i:Nat) (d:Du) (x:Int),i<k→os[i]? = some d→xs[i]? = some x→0≤x∧x≤d.am) →
  -D6 ((os.map Du.am).take k)≤D3 (grE ((rs.length+1:Nat):Int) (Bt rs os net)) (flE xs) k v∧D3 (grE ((rs.length+1:Nat):Int) (Bt rs os net)) (flE xs) k v≤D6 ((os.map Du.am).take k)
 | 0,_,_=>⟨Int.le_refl _,Int.le_refl _⟩
 | k+1,h,hp=>by
  have ih:=Nb (rs:=rs) (net:=net) hl v k (by omega) fun i d x hi=>hp i d x (by omega)
  obtain ⟨d,hd⟩:=A4 (l:=os) (i:=k) (by omega)
  obtain ⟨x,hx⟩:=A4 (l:=xs) (i:=k) (by omega)
  have h1:=hp k d x (by omega) hd hx
  have hm:(os.map Du.am)[k]? = some d.am:=by rw [List.getElem?_map,hd]; rfl
  have h2:∀ (p q:Prop) [Decidable p] [Decidable q],-x≤(one p - one q)*x∧(one p - one q)*x≤x:=fun p q _ _=>by
   by_cases hp:p <;> by_cases hq:q <;> simp only [one,if_pos,if_neg,hp,hq,not_false_eq_true,if_true,if_false] <;> omega
  rw [Fb,KN hm,show flE xs k=x from AU hx]
  have h3:=h2 ((grE ((rs.length+1:Nat):Int) (Bt rs os net)).t k=v) ((grE ((rs.length+1:Nat):Int) (Bt rs os net)).f k=v)
  omega
theorem ZA {rs:List Int} {os:List Du} {net:Bool} {xs:List Int} (hp:PayIn os xs) (v:Nat) (k:Nat) (h:k≤os.length) :
  -D6 ((os.map Du.am).take k)≤D3 (grE ((rs.length+1:Nat):Int) (Bt rs os net)) (flE xs) k v∧D3 (grE ((rs.length+1:Nat):Int) (Bt rs os net)) (flE xs) k v≤D6 ((os.map Du.am).take k) :=
 Nb (Nat.le_of_eq hp.1) v k h fun i d x _=>hp.2 i d x
theorem Ou {xs:List Int} (h:∀ x∈xs,0≤x) (k:Nat):D6 (xs.take k)≤D6 xs:=by
 have h1:D6 (xs.take k++xs.drop k)=D6 (xs.take k)+D6 (xs.drop k):=Ls _ _
 rw [List.take_append_drop] at h1
 have h2:=I7 (xs:=xs.drop k) fun x hx=>h x (List.mem_of_mem_drop hx)
 omega
/-- What a bank may go down by. -/
def Jv (rs:List Int) (net:Bool) (k:Nat):Int:=if net=true then 0 else rs.getD k 0
def Nc (rs:List Int) (os:List Du) (net:Bool) (xs:List Int) (k:Nat):Int:=Jv rs net k+byK rs os net xs k
/-- What may be paid. -/
structure PermP (rs:List Int) (ds:List Du) (net:Bool) (xs:List Int):Prop where
 B:Bright rs ds
 pay:PayIn (opn ds) xs
 left:∀ k,k<rs.length→0≤Nc rs (opn ds) net xs k∧(net=true→Nc rs (opn ds) net xs k=0)
def Fv (os:List Du) (xs:List Int) (k:Nat):Int:=Bn (fun i=>(os.getD i d00).we*xs.getD i 0) k
theorem Lt {os:List Du} {xs:List Int} {k:Nat} {d:Du} {x:Int} (hd:os[k]? = some d) (hx:xs[k]? = some x):Fv os xs (k+1)=Fv os xs k+d.we*x:=by
 show Fv os xs k+(os.getD k d00).we*xs.getD k 0=_
 rw [AU hd,AU hx]
theorem Ib {os:List Du} {xs:List Int} (hp:PayIn os xs) (hos:∀ d∈os,0≤d.we∧d.we≤1000):∀ k,k≤os.length→0≤Fv os xs k∧Fv os xs k≤1000*D6 ((os.map Du.am).take k)
 | 0,_=>⟨Int.le_refl _,Int.le_refl _⟩
 | k+1,h=>by
  have ih:=Ib hp hos k (by omega)
  have hl:=hp.1
  obtain ⟨d,hd⟩:=A4 (l:=os) (i:=k) (by omega)
  obtain ⟨x,hx⟩:=A4 (l:=xs) (i:=k) (by omega)
  have h1:=hp.2 k d x hd hx
  have hw:=hos d (List.mem_of_getElem? hd)
  have hm:(os.map Du.am)[k]? = some d.am:=by rw [List.getElem?_map,hd]; rfl
  have h2:0≤d.we*x:=Int.mul_nonneg hw.1 h1.1
  have h3:d.we*x≤1000*d.am:=Int.le_trans (Int.mul_le_mul_of_nonneg_right hw.2 h1.1) (Int.mul_le_mul_of_nonneg_left h1.2 (by decide))
  rw [Lt hd hx,KN hm]
  omega
/-- What flows where that is paid. -/
def GD (rs:List Int) (os:List Du) (net:Bool) (xs:List Int) (i:Nat):Int :=
 if i<os.length then flE xs i else if (i - os.length) % 2=0 then max 0 (-byK rs os net xs ((i - os.length) / 2)) else max 0 (byK rs os net xs ((i - os.length) / 2))
theorem KV {rs:List Int} {os:List Du} {net:Bool} {xs:List Int} {i:Nat} (h:i<os.length):GD rs os net xs i=flE xs i:=if_pos h
theorem Rn (rs:List Int) (os:List Du) (net:Bool) (xs:List Int) (k:Nat):GD rs os net xs (os.length+2*k)=max 0 (-byK rs os net xs k):=by
 unfold GD
 rw [if_neg (by omega),if_pos (by omega),show (os.length+2*k - os.length) / 2=k by omega]
theorem Ov (rs:List Int) (os:List Du) (net:Bool) (xs:List Int) (k:Nat):GD rs os net xs (os.length+2*k+1)=max 0 (byK rs os net xs k):=by
 unfold GD
 rw [if_neg (by omega),if_neg (by omega),show (os.length+2*k+1 - os.length) / 2=k by omega]
theorem IJ {g:Gr} {x y:Nat→Int} (v:Nat):∀ k,(∀ i,i<k→x i=y i)→D3 g x k v=D3 g y k v
 | 0,_=>rfl
 | k+1,h=>by rw [Fb,Fb,IJ v k fun i hi=>h i (by omega),h k (by omega)]
theorem Nd {rs:List Int} {os:List Du} {j:Nat} (hj:j<rs.length):∃ x,rs[j]? = some x∧(Bt rs os false)[os.length+2*j]? = some ⟨rs.length,j,x,0⟩∧(Bt rs os false)[os.length+2*j+1]? = some ⟨j,rs.length,4503599627370496,0⟩:=by
 obtain ⟨x,hx⟩:=A4 hj
 exact ⟨x,hx,Jg (IA hx),by rw [Nat.add_assoc]; exact Jg (Kl hj)⟩
/-- It goes round. -/
theorem Ta {rs:List Int} {ds:List Du} {net:Bool} {xs:List Int} (P:PermP rs ds net xs):∀ v,v<rs.length+1→Bs (grE ((rs.length+1:Nat):Int) (Bt rs (opn ds) net)) (GD rs (opn ds) net xs) v=0:=by
 have hB:=P.B.right net
 have hok:=HQ hB
 have hN:(grE ((rs.length+1:Nat):Int) (Bt rs (opn ds) net)).N=rs.length+1:=by show ((rs.length+1:Nat):Int).toNat=_; omega
 have hE:(grE ((rs.length+1:Nat):Int) (Bt rs (opn ds) net)).E=(Bt rs (opn ds) net).length:=rfl
 have hlen:=GM rs (opn ds) net
 have hb:∀ v,v<rs.length→Bs (grE ((rs.length+1:Nat):Int) (Bt rs (opn ds) net)) (GD rs (opn ds) net xs) v=0:=fun v hv=>by
  have h0:D3 (grE ((rs.length+1:Nat):Int) (Bt rs (opn ds) net)) (GD rs (opn ds) net xs) (opn ds).length v=byK rs (opn ds) net xs v:=IJ v _ fun i hi=>KV hi
  unfold Bs
  rw [hE,hlen]
  cases net with
  | true =>
   rw [if_pos rfl,show (opn ds).length+0=(opn ds).length from rfl,h0]
   have:=(P.left v hv).2 rfl
   unfold Nc Jv at this
   rw [if_pos rfl] at this
   omega
  | false =>
   rw [if_neg (by decide),MO (n:=rs.length) (fun j hj=>?_) hv rs.length (Nat.le_refl _),if_pos hv,h0,Rn,Ov]
   ·omega
   ·obtain ⟨x,-,e1,e2⟩:=Nd (os:=opn ds) hj
    rw [Pw e1,Px e1,Pw e2,Px e2]
    dsimp only
    omega
 intro v hv
 rcases Nat.lt_or_ge v rs.length with h | h
 ·exact hb v h
 ·obtain rfl:v=rs.length:=by omega
  have ha:=over_all _ hok (GD rs (opn ds) net xs)
  rw [hN] at ha
  have h2:Bn (Bs (grE ((rs.length+1:Nat):Int) (Bt rs (opn ds) net)) (GD rs (opn ds) net xs)) rs.length=Bn (fun _=>0) rs.length:=BU hb
  have h3:Bn (Bs (grE ((rs.length+1:Nat):Int) (Bt rs (opn ds) net)) (GD rs (opn ds) net xs)) rs.length+Bs (grE ((rs.length+1:Nat):Int) (Bt rs (opn ds) net)) (GD rs (opn ds) net xs) rs.length=0:=ha
  rw [h2,FN] at h3
  omega
/-- An edge of a round, by where it lies. -/
theorem Ow {rs:List Int} {os:List Du} {net:Bool} {i:Nat} (hi:i<(Bt rs os net).length):(∃ d,os[i]? = some d∧(Bt rs os net)[i]? = some (E9 d)) ∨
  (net=false∧∃ k x,k<rs.length∧rs[k]? = some x∧((i=os.length+2*k∧(Bt rs os net)[i]? = some ⟨rs.length,k,x,0⟩)∨(i=os.length+2*k+1∧(Bt rs os net)[i]? = some ⟨k,rs.length,4503599627370496,0⟩))):=by
 have hlen:=GM rs os net
 rcases Nat.lt_or_ge i os.length with h | h
 ·obtain ⟨d,hd⟩:=A4 h
  exact .inl ⟨d,hd,EM hd⟩
 ·cases net with
  | true=>rw [hlen,if_pos rfl] at hi; omega
  | false =>
   rw [hlen,if_neg (by decide)] at hi
   obtain ⟨x,hx,e1,e2⟩:=Nd (os:=os) (j:=(i - os.length) / 2) (rs:=rs) (by omega)
   refine .inr ⟨rfl,(i - os.length) / 2,x,by omega,hx,?_⟩
   by_cases hp:(i - os.length) % 2=0
   ·exact .inl ⟨by omega,by rw [show os.length+2*((i - os.length) / 2)=i by omega] at e1; exact e1⟩
   ·exact .inr ⟨by omega,by rw [show os.length+2*((i - os.length) / 2)+1=i by omega] at e2; exact e2⟩
theorem V0 {rs:List Int} {ds:List Du} {net:Bool} {xs:List Int} (P:PermP rs ds net xs) {i:Nat} (hi:i<(Bt rs (opn ds) net).length):0≤GD rs (opn ds) net xs i∧GD rs (opn ds) net xs i≤BZ (Bt rs (opn ds) net) i:=by
 have htot:=P.B.open'.tot
 unfold BZ
 rcases Ow hi with ⟨d,hd,he⟩ | ⟨rfl,k,x,hk,hx,⟨rfl,he⟩ | ⟨rfl,he⟩⟩
 ·have hl:=P.pay.1
  have hlt:=Cr hd
  obtain ⟨y,hy⟩:=A4 (l:=xs) (i:=i) (by omega)
  have:=P.pay.2 i d y hd hy
  rw [KV hlt,show flE xs i=y from AU hy,AU he]
  exact this
 ·rw [Rn,AU he]
  have h1:=(P.left k hk).1
  have h2:=Ey.1 (P.B.may x (List.mem_of_getElem? hx))
  unfold Nc Jv at h1
  rw [if_neg (by decide),AU hx] at h1
  show 0≤max 0 _∧max 0 _≤x
  omega
 ·rw [Ov,AU he]
  have h1:=(ZA (rs:=rs) (net:=false) P.pay k _ (Nat.le_refl _)).2
  rw [List.take_of_length_le (by rw [List.length_map]; exact Nat.le_refl _)] at h1
  have h2:byK rs (opn ds) false xs k≤4503599627370496:=Int.le_trans h1 htot
  show 0≤max 0 _∧max 0 _≤(4503599627370496:Int)
  omega
/-- What costs are worth. -/
theorem Lu {rs:List Int} {os:List Du} {net:Bool} {y:Nat→Int} {xs:List Int} (hy:∀ i,i<os.length→y i=flE xs i):FO (grE ((rs.length+1:Nat):Int) (Bt rs os net)) y = -Fv os xs os.length:=by
 have hlen:=GM rs os net
 have h1:FO (grE ((rs.length+1:Nat):Int) (Bt rs os net)) y=Bn (fun i => -((os.getD i d00).we*xs.getD i 0)) os.length:=by
  unfold FO
  refine QO (f:=fun i=>y i*(grE ((rs.length+1:Nat):Int) (Bt rs os net)).co i) _ (by show os.length≤(Bt rs os net).length; omega) (fun i hi=>?_) fun i hi h2=>?_
  ·obtain ⟨d,hd⟩:=A4 hi
   (try dsimp only)
   rw [Ob (EM hd),AU hd,hy i hi]
   unfold E9 flE
   dsimp only
   rw [Int.mul_neg,Int.mul_comm]
  ·rcases Ow (rs:=rs) (os:=os) (net:=net) (i:=i) h2 with ⟨d,hd,he⟩ | ⟨hn,k,x,hk,hx,⟨hi2,he⟩ | ⟨hi2,he⟩⟩
   ·have:=Cr hd
    omega
   ·(try dsimp only)
    rw [Ob he]
    exact Int.mul_zero _
   ·(try dsimp only)
    rw [Ob he]
    exact Int.mul_zero _
 rw [h1,Kc]
 rfl
theorem Yl {rs:List Int} {ds:List Du} {net:Bool} {r:Rnd} (P:PlnR rs ds net r) {xs:List Int} (Q:PermP rs ds net xs):Fv (opn ds) xs (opn ds).length≤Fv (opn ds) (r.fl) (opn ds).length:=by
 obtain ⟨p1,p2,p3,p4⟩:=Rm P
 rw [P.N,P.es] at p1 p3 p4
 have hN:(grE ((rs.length+1:Nat):Int) (Bt rs (opn ds) net)).N=rs.length+1:=by show ((rs.length+1:Nat):Int).toNat=_; omega
 have hN2:((rs.length+1:Nat):Int).toNat=rs.length+1:=by omega
 have h:=Fine.best (HQ p1) p4 (fun v hv=>p3 v (by rw [hN] at hv; omega)) (y:=GD rs (opn ds) net xs) (fun i hi=>V0 Q hi) fun v hv=>Ta Q v (by rw [hN] at hv; exact hv)
 rw [Lu (xs:=r.fl) fun i _=>rfl,Lu fun i hi=>KV hi] at h
 omega
/-- What is told of the pays that a round makes. -/
theorem Hu {rs:List Int} {ds:List Du} {net:Bool} {r:Rnd} (P:PlnR rs ds net r) (hB:Bright rs ds):PermP rs ds net (r.fl.take (opn ds).length)∧Bn (byK rs (opn ds) net r.fl) rs.length=0∧(∀ (k:Nat) (x:Int),rs[k]? = some x→(net=true→byK rs (opn ds) net r.fl k=0) ∧ -x≤byK rs (opn ds) net r.fl k∧byK rs (opn ds) net r.fl k≤4503599627370496):=by
 have hc:=(F7.1 P.chk).1
 rw [P.N,P.es] at hc
 obtain ⟨h1,h2,h3,h4⟩:=Xy (fun x hx=>(Ey.1 (hB.may x hx)).1) hB.open'.due hc
 refine ⟨⟨hB,h1,fun k hk=>?_⟩,h4,h3⟩
 have hby:byK rs (opn ds) net (r.fl.take (opn ds).length) k=byK rs (opn ds) net r.fl k:=IJ k _ fun i hi=>by
  unfold flE
  rw [List.getD_eq_getElem?_getD,List.getD_eq_getElem?_getD,List.getElem?_take,if_pos hi]
 obtain ⟨x,hx⟩:=A4 hk
 obtain ⟨g1,g2,-⟩:=h3 k x hx
 unfold Nc Jv
 rw [hby]
 cases net with
 | true=>rw [if_pos rfl,g1 rfl]; exact ⟨by omega,fun _=>by omega⟩
 | false=>rw [if_neg (by decide),AU hx]; exact ⟨by omega,fun h=>by cases h⟩
theorem Nf {os:List Du} {fl:List Int}:∀ k,k≤os.length→Fv os (fl.take os.length) k=Fv os fl k:=fun k hk=>BU fun i hi=>by
 rw [List.getD_eq_getElem?_getD (l:=fl.take os.length),List.getD_eq_getElem?_getD (l:=fl),List.getElem?_take,if_pos (by omega)]
/-- A round that is planned is right, unless an id comes twice. -/
theorem V1 {rs:List Int} {ds:List Du} {net:Bool} {r:Rnd} (P:PlnR rs ds net r) (hB:Bright rs ds) (hn:r.ids.Nodup):B7 r=true:=by
 have hl:r.ids.length=(opn ds).length:=by rw [P.ids,List.length_map]
 have hol:=Km ds
 have h64:=hB.m64
 have h16:=hB.n16
 have hlen:=GM rs (opn ds) net
 have hN:r.N - 1=(rs.length:Int):=by rw [P.N]; omega
 have hhead:Ha r=true:=by
  unfold Ha
  rw [P.chk,P.day,decide_eq_true (show (0:Int)≤2 by decide),decide_eq_true (show r.ids.length≤64 by omega),decide_eq_true hn,decide_eq_true (show r.N - 1≤16 by omega),decide_eq_true (show r.ids.length≤r.es.length by rw [P.es,hlen,hl]; omega)]
  rfl
 have hdue:(r.es.take r.ids.length).all (EH (r.N - 1))=true:=by
  have h1:r.es.take r.ids.length=(opn ds).map E9:=by
   rw [P.es,hl]
   unfold Bt
   rw [List.take_left' (by rw [List.length_map])]
  rw [h1,List.all_eq_true]
  intro e he
  obtain ⟨d,hd,rfl⟩:=List.mem_map.1 he
  obtain ⟨h2,h3,h4⟩:=hB.open'.due d hd
  have h5:=DM h2
  unfold EH E9
  simp only [Bool.and_eq_true,decide_eq_true_eq,Bool.not_eq_true',decide_eq_false_iff_not]
  omega
 have hdrop:r.es.drop r.ids.length=if net=true then [] else Kk rs:=by
  rw [P.es,hl]
  unfold Bt
  rw [List.drop_left' (by rw [List.length_map])]
 have hrest:HW r=true:=by
  unfold HW
  rw [hdrop,P.cmp]
  cases net with
  | true=>rfl
  | false =>
   rw [if_neg (by decide),if_neg (by decide),Bool.and_eq_true,decide_eq_true_eq,List.all_eq_true]
   refine ⟨by rw [Pv]; omega,fun b hb=>?_⟩
   have hb2:b<rs.length:=by have:=List.mem_range.1 hb; omega
   obtain ⟨x,hx⟩:=A4 hb2
   unfold IB
   rw [AU (IA hx),AU (Kl hb2),hN]
   simp
 unfold B7
 rw [hhead,hdue,hrest]
 rfl
theorem V2 {r:Rnd} (hn:¬ r.ids.Nodup):B7 r=false:=by
 unfold B7 Ha
 rw [decide_eq_false hn]
 simp
/-- What the witness tells of rooms and dues, and that they make the same round. -/
theorem ZB {rs:List Int} {ds:List Du} {net:Bool} {r:Rnd} (P:PlnR rs ds net r) (hB:Bright rs ds):(CB r).length=rs.length∧(∀ (k:Nat) (x:Int),rs[k]? = some x→(CB r)[k]? = some (if net=true then 0 else x))∧opn (CQ r r.ids.length)=CQ r r.ids.length∧(CQ r r.ids.length).length=(opn ds).length∧Bright (CB r) (CQ r r.ids.length)∧PlnR (CB r) (CQ r r.ids.length) net r:=by
 have hl:r.ids.length=(opn ds).length:=by rw [P.ids,List.length_map]
 have hlen:=GM rs (opn ds) net
 have hN:(r.N - 1).toNat=rs.length:=by rw [P.N]; omega
 have hL:(CB r).length=rs.length:=by unfold CB; rw [Cy,hN]
 have hroom:∀ (k:Nat) (x:Int),rs[k]? = some x→(CB r)[k]? = some (if net=true then 0 else x):=fun k x hx=>by
  have hk:=Cr hx
  unfold CB
  rw [B4 (by omega)]
  unfold Dk
  cases net with
  | true =>
   rw [if_pos rfl] at hlen
   rw [if_neg (by rw [P.es,hlen]; omega),if_pos rfl]
  | false =>
   rw [if_neg (by decide)] at hlen
   obtain ⟨y,hy,e1,-⟩:=Nd (os:=opn ds) hk
   rw [hy] at hx
   cases hx
   rw [if_pos (by rw [P.es,hlen]; omega),if_neg (by decide),hl,P.es,AU e1]
 have hdu:∀ i d,(opn ds)[i]? = some d→MV r i={ d with un:=0 }:=fun i d hd=>by
  have hh:=(Py (List.mem_of_getElem? hd)).2
  unfold MV
  rw [P.es,AU (EM hd),P.ids,AU (x:=d.id) (by rw [List.getElem?_map,hd]; rfl)]
  unfold E9
  obtain ⟨id,fr,to,am,we,un,held⟩:=d
  dsimp only at hh ⊢
  rw [hh,Int.neg_neg]
 have hK:CQ r r.ids.length=(opn ds).map fun d=>{ d with un:=0 }:=by
  apply List.ext_getElem?
  intro i
  rcases Nat.lt_or_ge i (opn ds).length with h | h
  ·obtain ⟨d,hd⟩:=A4 h
   unfold CQ
   rw [Dd (by omega),List.getElem?_map,hd,hdu i d hd]
   rfl
  ·rw [List.getElem?_eq_none (by rw [Gm]; omega),List.getElem?_eq_none (by rw [List.length_map]; omega)]
 have hop:opn (CQ r r.ids.length)=CQ r r.ids.length:=by
  rw [hK]
  unfold opn
  rw [List.filter_eq_self]
  intro d hd
  obtain ⟨d',hd',rfl⟩:=List.mem_map.1 hd
  show (!d'.held)=true
  have:=(List.mem_filter.1 hd').2
  exact this
 have hlK:(CQ r r.ids.length).length=(opn ds).length:=by rw [Gm,hl]
 have hmem:∀ x∈CB r,EF x=true:=fun x hx=>by
  obtain ⟨k,hk⟩:=List.mem_iff_getElem?.1 hx
  have hk2:=Cr hk
  obtain ⟨y,hy⟩:=A4 (l:=rs) (i:=k) (by omega)
  rw [hroom k y hy] at hk
  cases hk
  split
  ·rfl
  ·exact hB.may y (List.mem_of_getElem? hy)
 have hBo:=hB.open'
 have hBr:Bright (CB r) (CQ r r.ids.length):=by
  refine ⟨by rw [hL]; exact hB.n16,hmem,by rw [hlK]; exact hBo.m64,fun d hd=>?_,?_⟩
  ·rw [hK] at hd
   obtain ⟨d',hd',rfl⟩:=List.mem_map.1 hd
   obtain ⟨h1,h2,h3⟩:=hBo.due d' hd'
   refine ⟨?_,by rw [hL]; exact h2,by rw [hL]; exact h3⟩
   have h4:=DM h1
   unfold EG EF ML
   simp only [Bool.and_eq_true,decide_eq_true_eq,Bool.not_eq_true',decide_eq_false_iff_not]
   omega
  ·rw [hK,List.map_map]
   exact hBo.tot
 refine ⟨hL,hroom,hop,hlK,hBr,⟨P.no,P.day,P.cmp,?_,by rw [P.N,hL],?_,P.chk⟩⟩
 ·rw [hop,hK,P.ids,List.map_map]
  rfl
 ·rw [hop,P.es]
  unfold Bt
  have h1:(CQ r r.ids.length).map E9=(opn ds).map E9:=by rw [hK,List.map_map]; rfl
  rw [h1]
  cases net with
  | true=>rfl
  | false =>
   have h2:CB r=rs:=by
    apply List.ext_getElem?
    intro k
    rcases Nat.lt_or_ge k rs.length with h | h
    ·obtain ⟨x,hx⟩:=A4 h
     rw [hroom k x hx,hx,if_neg (by decide)]
    ·rw [List.getElem?_eq_none (by omega),List.getElem?_eq_none (by omega)]
   rw [h2]
/-- What a bank gets, less what it pays. -/
theorem ZC {rs:List Int} {ds:List Du} {net:Bool} {r:Rnd} (P:PlnR rs ds net r) (hB:Bright rs ds) (k:Nat):Ei r (toF k) r.ids.length - Ei r (frF k) r.ids.length=byK rs (opn ds) net r.fl k:=by
 have hl:r.ids.length=(opn ds).length:=by rw [P.ids,List.length_map]
 have h:∀ j,j≤(opn ds).length→Ei r (toF k) j - Ei r (frF k) j=D3 (grE ((rs.length+1:Nat):Int) (Bt rs (opn ds) net)) (flE r.fl) j k:=by
  intro j
  induction j with
  | zero=>intro _; rfl
  | succ j ih =>
   intro hj
   obtain ⟨d,hd⟩:=A4 (l:=opn ds) (i:=j) (by omega)
   have he:r.es[j]? = some (E9 d):=by rw [P.es]; exact EM hd
   have hdu:=DM (hB.open'.due d (List.mem_of_getElem? hd)).1
   have h2:=ih (by omega)
   have e1:∀ f,Ei r f (j+1)=Ei r f j+f (E9 d) (r.fl.getD j 0):=fun f=>by
    show Ei r f j+f (r.es.getD j e0) (r.fl.getD j 0)=_
    rw [AU he]
   rw [e1,e1,Fb,Px (EM hd),Pw (EM hd),show flE r.fl j=r.fl.getD j 0 from rfl]
   obtain ⟨A,hA⟩:∃ A,A=Ei r (toF k) j:=⟨_,rfl⟩
   obtain ⟨B,hB'⟩:∃ B,B=Ei r (frF k) j:=⟨_,rfl⟩
   obtain ⟨x,hx⟩:∃ x,x=r.fl.getD j 0:=⟨_,rfl⟩
   rw [← hA,← hB'] at h2 ⊢
   rw [← hx]
   unfold toF frF
   have c1:((E9 d).t=(k:Int))↔(E9 d).t.toNat=k:=by unfold E9; dsimp only; omega
   have c2:((E9 d).f=(k:Int))↔(E9 d).f.toNat=k:=by unfold E9; dsimp only; omega
   by_cases q1:(E9 d).t.toNat=k <;> by_cases q2:(E9 d).f.toNat=k
   ·rw [if_pos (c1.2 q1),if_pos (c2.2 q2),FQ q1,FQ q2]; omega
   ·rw [if_pos (c1.2 q1),if_neg (fun h=>q2 (c2.1 h)),FQ q1,Fa q2]; omega
   ·rw [if_neg (fun h=>q1 (c1.1 h)),if_pos (c2.2 q2),Fa q1,FQ q2]; omega
   ·rw [if_neg (fun h=>q1 (c1.1 h)),if_neg (fun h=>q2 (c2.1 h)),Fa q1,Fa q2]; omega
 unfold byK
 rw [hl]
 exact h _ (Nat.le_refl _)
/-- What a round is worth. -/
theorem V3 {rs:List Int} {ds:List Du} {net:Bool} {r:Rnd} (P:PlnR rs ds net r):Ei r woF r.ids.length=Fv (opn ds) r.fl (opn ds).length:=by
 have hl:r.ids.length=(opn ds).length:=by rw [P.ids,List.length_map]
 rw [hl]
 refine BU fun i hi=>?_
 obtain ⟨d,hd⟩:=A4 hi
 have he:r.es[i]? = some (E9 d):=by rw [P.es]; exact EM hd
 (try dsimp only)
 rw [AU he,AU hd]
 unfold woF E9
 dsimp only
 rw [Int.neg_neg]
end Go.Proofs.YtapphbmlkdhnmaaGreat

/- What is the same is told to be the same: rounds, rooms, dues. -/
namespace Go.Proofs.YtapphbmlkdhnmaaGreat
open Go.GV
attribute [local irreducible] A1 W Wq Wt

/-- Is it more than is gone through? -/
def vastB (r:Rnd):Bool:=((decide (2000<r.es.length) || decide (2000<r.fl.length)) || decide (2000<r.pot.length)) || decide (200<r.ids.length)
end Go.Proofs.YtapphbmlkdhnmaaGreat

/- What the form reads of this seat's arguments. -/
namespace Go.Proofs.YtapphbmlkdhnmaaGreat
open Go.GV Go.ChangeShapes Go.WideShapes

theorem own:ownKnob Tryz.prog.godebug=none:=by kernel_rfl
theorem ZD:laidOutB Tryz.prog=true:=by kernel_rfl
section
variable {H:Type} {enc:TypeId × Value→H} {w:World} {base:Nat} {spare:Nat→Bool} {held:Bool}
theorem Ym:∃ fs,Tryz.prog.underlying 62=some (.struct fs)∧(List.range 7).map (fun i=>fs[i]?.map fun f=>(f.type,f.offset))=[some (24,0),some (3,1),some (3,2),some (2,3),some (2,4),some (2,5),some (4,6)]:=⟨_,Tryz.underlying62,by kernel_rfl⟩
theorem Um:Tryz.prog.cellsOf 62=7:=by kernel_rfl
theorem Yn:Tryz.prog.cellsOf 2=1:=by kernel_rfl
/-- What a due's numbers may be, as its type has it. -/
def DuT (d:Du):Prop:=(0≤d.id∧d.id<18446744073709551616)∧I64 d.fr∧I64 d.to∧I64 d.am∧I64 d.we∧I64 d.un
theorem Ad0:∀ n cs y,DataW.trod enc Tryz.prog w base spare held n 62 cs=some y→∃ d:Du,cs=CP d∧DuT d:=by
 intro n cs y h
 obtain ⟨fs,ht,hf⟩:=Ym
 have hl:=U9 ht h
 rw [Um] at hl
 simp only [List.range,List.range.loop,List.map_cons,List.map_nil,List.cons.injEq,and_true] at hf
 obtain ⟨f0,f1,f2,f3,f4,f5,f6⟩:=hf
 obtain ⟨a,ha,a1,a2⟩:=IY ht h 0 0 f0 Tryz.underlying24
 obtain ⟨b,hb,hb'⟩:=IY ht h 1 1 f1 Tryz.underlying3
 obtain ⟨c,hc,hc'⟩:=IY ht h 2 2 f2 Tryz.underlying3
 obtain ⟨d,hd,hd'⟩:=IY ht h 3 3 f3 Tryz.underlying2
 obtain ⟨e,he,he'⟩:=IY ht h 4 4 f4 Tryz.underlying2
 obtain ⟨f,hf,hf'⟩:=IY ht h 5 5 f5 Tryz.underlying2
 obtain ⟨g,hg⟩:=VW ht h 6 6 f6 Tryz.underlying4
 refine ⟨⟨a,b,c,d,e,f,g⟩,?_,⟨a1,by have a3:a≤18446744073709551615:=a2; dsimp only; omega⟩,hb',hc',hd',he',hf'⟩
 match cs,hl with
 | [_,_,_,_,_,_,_],_ =>
  simp at ha hb hc hd he hf hg
  simp [ha,hb,hc,hd,he,hf,hg]
def EdT (e:Ed):Prop:=I64 e.f∧I64 e.t∧I64 e.cap∧I64 e.cost
/-- What a round's numbers may be, as its type has it. -/
structure RT (r:Rnd):Prop where
 no:0≤r.no∧r.no<18446744073709551616
 day:I64 r.day
 ids:∀ x∈r.ids,0≤x∧x<18446744073709551616
 N:I64 r.N
 es:∀ e∈r.es,EdT e
 fl:∀ x∈r.fl,I64 x
 pot:∀ x∈r.pot,I64 x
set_option maxRecDepth 100000 in
theorem du_of {b:Nat} {v:Value} {d:DataW H} {ps:List MemPlace} (hv:Value.okWide Tryz.prog w .any b 23 v) (h:DataW.Trod enc Tryz.prog w base spare held 23 v d ps):∃ a c l,v = .slice a l.length c∧Rd w a 7 CP l∧∀ x∈l,DuT x:=by
 obtain ⟨a,c,l,h1,h2,-,-,h3⟩:=T0 Tryz.underlying23 Um (by decide) Ad0 (okWide_slice Tryz.underlying23 hv) h
 exact ⟨a,c,l,h1,h2,h3⟩
set_option maxRecDepth 100000 in
theorem Un {b:Nat} {v:Value} {d:DataW H} {ps:List MemPlace} (hv:Value.okWide Tryz.prog w .any b 29 v) (h:DataW.Trod enc Tryz.prog w base spare held 29 v d ps):∃ a c l,v = .slice a l.length c∧Rd w a 1 I1 l∧l.length≤c∧∀ x∈l,I64 x:=by
 obtain ⟨a,c,l,h1,h2,hc,-,h3⟩:=T0 Tryz.underlying29 Yn (by decide) (YD Tryz.underlying2) (okWide_slice Tryz.underlying29 hv) h
 exact ⟨a,c,l,h1,h2,hc,h3⟩
end
end Go.Proofs.YtapphbmlkdhnmaaGreat

/- The law of what any round and any bytes are told to be: the walk. -/
namespace Go.Proofs.YtapphbmlkdhnmaaGreat
open Go.GV
attribute [local irreducible] A1 W Wq Wt

def V4 (l:List UInt8):Rnd:=if IG l=true then Lz l else GA
def gotC (l:List UInt8):Int:=if IG l=true then 0 else 5
theorem Yo {l:List UInt8} {w w':World} {v:Value} (h:GetRes l w w' v):∃ q,v = .tuple #[.agg (AJ (V4 l) q).toArray,.int .i64 (gotC l)]∧RAt w' (V4 l) q∧(IG l=true→(V4 l).es.length≤q.cE):=by
 unfold V4 gotC
 cases hb:IG l with
 | true =>
  obtain ⟨q,h1,h2,h3,-⟩:=h.ok hb
  exact ⟨q,h1,h2,fun _=>h3⟩
 | false =>
  exact ⟨FT,h.no hb,⟨Rd.nil,Rd.nil,Rd.nil,Rd.nil,Nat.le_refl _⟩,fun h=>by cases h⟩
def Yp (r:Rnd):List UInt8:=if B7 r=true then CF r else []
def putC (r:Rnd):Int:=if B7 r=true then 0 else 1
theorem ZE {r:Rnd} {w w':World} {v:Value} (hT:B7 r=true→∃ s,v = .tuple #[s,.int .i64 0]∧Fresh w w' 5 1 s ((CF r).map bv)) (hF:B7 r=false→v = .tuple #[.slice none 0 0,.int .i64 1]∧Ext [] w w') :
  ∃ (a:Option Addr) (c:Nat),v = .tuple #[.slice a (Yp r).length c,.int .i64 (putC r)]∧Rd w' a 1 B8 (Yp r)∧Ext [] w w'∧(Yp r).length≤c:=by
 unfold Yp putC
 cases h:B7 r with
 | true =>
  obtain ⟨s,rfl,F⟩:=hT h
  obtain ⟨a,n,c,full,rfl,O,hb⟩:=F.ex
  obtain ⟨a',c',e,R,-⟩:=Fresh.rdB F
  cases e
  exact ⟨a,c,rfl,R,F.ext,O.le⟩
 | false =>
  obtain ⟨rfl,hx⟩:=hF h
  exact ⟨none,0,rfl,Rd.nil,hx,Nat.le_refl _⟩
end Go.Proofs.YtapphbmlkdhnmaaGreat

/- Whether something may be paid, and what that is worth. -/
namespace Go.Proofs.YtapphbmlkdhnmaaGreat
open Go.GV
attribute [local irreducible] A1 W Wq Wt

section
variable {P:Program} {r:Option Nat} {ops rest:List Oper} {Q:Exit→Env→World→Prop} {e:Env} {w:World}
 {dst:Option Tmp} {ty:TypeId} {pos:String} {af:Array Edge} {g:Option (Nat × Bool)} {t:TypeId} {x:Operand}
theorem V5 {el:TypeId} {a:Option Addr} {c:Nat} (hg:AG ⟨dst,.call ⟨.builtin .clear,#[x],#[t]⟩,ty,pos,af,g⟩ ops e=true) (hu:C0 P t=some el) (hx:ev e x = .slice a 0 c)
  (h:A1 P r ops Q rest (put e dst (.tuple #[])) w):A1 P r ops Q (⟨dst,.call ⟨.builtin .clear,#[x],#[t]⟩,ty,pos,af,g⟩::rest) e w :=
 Br (w':=w) (v := .tuple #[]) hg rfl (by cases a <;> simp [execOp,resolve,invoke,builtin,hx,Builtin.clear_,AP (Cc hu)]) h
end
def Ng (net:Bool) (x:Int):Bool:=decide (x<0) || (net && !decide (x=0))
theorem Yq (b:Nat) (net:Bool) (x:Int) (w:World) (hb:w.heap[b]? = some (Bl 4 [.bool net])):Ret Tryz.prog 108 #[.int .i64 x,ptr b] w fun v w'=>v = .bool (Ng net x)∧Ext [] w w':=by
 obtain ⟨w0,rfl⟩:∃ w0,w0=w:=⟨_,rfl⟩
 have H:=Ctx.start w0 []
 refine A0 (fn:=Tryz.f108) Tryz.func108 rfl [.int .i64 x,.pointer (some ⟨b,0,none⟩)] rfl (by kernel_rfl) ?_
 refine Af (Ai rfl rfl (Ab (Aa (Af (Ad rfl rfl (AV rfl rfl rfl (Ay rfl rfl (AH 6 rfl ?_ ?_))))))))
 ·intro h1
  replace h1:=AE h1
  refine Ag rfl (Ag rfl (Ag rfl (Ag rfl (Ag rfl (A3 rfl rfl (.bool _) rfl (Ai rfl rfl (Ab (Aa (A9 (AC (v:=(.bool _)) rfl rfl rfl ?_))))))))))
  exact ⟨congrArg Value.bool (by unfold Ng; rw [Bool.eq_iff_iff]; simp_all; try omega),H.ext⟩
 ·intro h2
  replace h2:=AF h2
  refine AY rfl Hh rfl ((by rw [An hb]; rfl)) ?_
  refine Ay rfl rfl (AH 8 rfl ?_ ?_)
  ·intro h3
   refine Ad rfl rfl (CY rfl rfl rfl (A3 rfl rfl (.bool _) rfl (AA rfl rfl (.bool _) rfl (Ai rfl rfl (Ab (Aa (A9 (AC (v:=(.bool _)) rfl rfl rfl ?_))))))))
   exact ⟨congrArg Value.bool (by unfold Ng; rw [Bool.eq_iff_iff]; simp_all; try omega),H.ext⟩
  ·intro h4
   refine Ag rfl (Ag rfl (AA rfl rfl (.bool _) rfl (AA rfl rfl (.bool _) rfl (Ai rfl rfl (Ab (Aa (A9 (AC (v:=(.bool _)) rfl rfl rfl ?_))))))))
   exact ⟨congrArg Value.bool (by unfold Ng; rw [Bool.eq_iff_iff]; simp_all; try omega),H.ext⟩
abbrev lowF (b:Nat):Value := .func (.func 108) #[] #[ptr b]
set_option maxRecDepth 20000 in
theorem ZF (net:Bool) (b:Nat) (a:Option Addr) (n c:Nat) (xs:List Int) (w:World) (hb:w.heap[b]? = some (Bl 4 [.bool net])) (R:Rd w a 1 I1 xs) (hn:xs.length=n) (hn2:n≤1000000) :
  Ret Tryz.prog 159 #[.slice a n c,lowF b] w fun v w'=>∃ i:Int,v = .int .i64 i∧(0≤i↔xs.any (Ng net)=true)∧Ext [] w w':=by
 subst hn
 obtain ⟨w0,rfl⟩:∃ w0,w0=w:=⟨_,rfl⟩
 have H:=Ctx.start w0 []
 refine A0 (fn:=Tryz.f159) Tryz.func159 rfl [.slice a xs.length c,.func (.func 108) #[] #[.pointer (some ⟨b,0,none⟩)]] rfl (by kernel_rfl) ?_
 refine Af (Ae rfl rfl (Ab (Aa (Aq (Af (Ak rfl rfl (Be rfl AX rfl (Ad rfl rfl (Ab (Aa (Av ?_)))))))))))
 refine Bm 524080 (α:=Nat) (fun i=>[(8,.int .i64 (i:Int))]) (fun i w'=>i≤xs.length∧Ctx w0 [] w' []∧∀ (j:Nat) (x:Int),j<i→xs[j]? = some x→Ng net x=false) (fun i=>xs.length - i) 0 rfl ?_ ?_ ?_
 ·exact ⟨rfl,trivial⟩
 ·exact ⟨Nat.zero_le _,H,fun j e h=>absurd h (Nat.not_lt_zero _)⟩
 ·clear H
  rintro i j w ⟨hi,H,hbf⟩
  refine Af (AV rfl rfl rfl (Ab (Aa (Aq (Ax _ rfl ?_ ?_)))))
  ·intro h1
   replace h1:=AE h1
   obtain ⟨x,hx⟩:=A4 (l:=xs) (i:=i) (by omega)
   have R1:=R.ext0 H.ext
   refine Aw (Aa (Aq (Av (Af (Ad rfl rfl (Ae rfl rfl (Ab (Aa (Af (BO rfl (.func _ _ _) rfl ?_))))))))))
   refine Ak rfl rfl (Ad rfl rfl (Ba R1 rfl AX Bw rfl rfl (by omega) (by omega) (by rfl) ?_))
   refine AY rfl B9 rfl ((R1.one (f:=J9) hx)) ?_
   refine Cb rfl rfl Aa0 (Yq b net x _ (H.ext.to hb (by simp))) rfl ?_
   rintro v w ⟨rfl,hx16⟩
   replace H:=H.call hx16
   refine Ab (Aa (Ax _ rfl ?_ ?_))
   ·intro h2
    refine Af (Ad rfl rfl (Ae rfl rfl (Ab (Aa (A9 (A7 (Am (Am (A7 (Am (AC (v:=(.int _ _)) rfl rfl rfl ?_)))))))))))
    exact ⟨i,rfl,⟨fun _=>List.any_eq_true.2 ⟨x,List.mem_of_getElem? hx,h2⟩,fun _=>by omega⟩,H.ext⟩
   ·intro h2
    refine Aw (A2 (Aa (Ap (Ao rfl rfl rfl (by omega) (by omega) ?_))))
    refine Ad rfl rfl (Ab (Aa ?_))
    refine ⟨i+1,rfl,⟨rfl,trivial⟩,⟨by omega,H,fun j' e' hj he'=>?_⟩,by omega⟩
    rcases Nat.lt_or_ge j' i with h3 | h3
    ·exact hbf j' e' h3 he'
    ·obtain rfl:j'=i:=by omega
     rw [hx] at he'; cases he'
     simpa using h2
  ·intro h1
   replace h1:=AF h1
   obtain rfl:i=xs.length:=by omega
   refine Bh (Aj (Aj (AB (Aa (Af (Ae rfl rfl (Ab (Aa (A9 (AC (v:=(.int _ _)) rfl rfl rfl ?_))))))))))
   refine ⟨-1,rfl,⟨fun h=>by omega,fun h=>?_⟩,H.ext⟩
   exfalso
   obtain ⟨x,hx,hl⟩:=List.any_eq_true.1 h
   obtain ⟨k,hk⟩:=List.mem_iff_getElem?.1 hx
   rw [hbf k x (Cr hk) hk] at hl
   cases hl
theorem Yr (net:Bool) (b:Nat) (a:Option Addr) (n c:Nat) (xs:List Int) (w:World) (hb:w.heap[b]? = some (Bl 4 [.bool net])) (R:Rd w a 1 I1 xs) (hn:xs.length=n) (hn2:n≤1000000) :
  Ret Tryz.prog 107 #[.slice a n c,lowF b] w fun v w'=>v = .bool (xs.any (Ng net))∧Ext [] w w':=by
 obtain ⟨w0,rfl⟩:∃ w0,w0=w:=⟨_,rfl⟩
 have H:=Ctx.start w0 []
 refine A0 (fn:=Tryz.f107) Tryz.func107 rfl [.slice a n c,.func (.func 108) #[] #[.pointer (some ⟨b,0,none⟩)]] rfl (by kernel_rfl) ?_
 refine Af (Ai rfl rfl (Ab (Aa (Af (Ak rfl rfl (BO rfl (.func (.func 108) #[] #[.pointer (some ⟨b,0,none⟩)]) rfl ?_))))))
 refine Al rfl Abm (ZF net b a n c xs _ (H.ext.to hb (by simp)) (R.ext0 H.ext) hn hn2) rfl ?_
 rintro v w ⟨i,rfl,hi,hx7⟩
 replace H:=H.call hx7
 refine CK rfl rfl rfl (Ai rfl rfl (Ab (Aa (A9 (AC (v:=(.bool _)) rfl rfl rfl ?_)))))
 refine ⟨congrArg Value.bool ?_,H.ext⟩
 rw [Bool.eq_iff_iff,decide_eq_true_eq,← hi]

/-- How far one has gone. -/
def EI (rs:List Int) (os:List Du) (net:Bool) (xs:List Int) (i k:Nat):Int:=Jv rs net k+D3 (grE ((rs.length+1:Nat):Int) (Bt rs os net)) (flE xs) i k
theorem Tb {rs:List Int} {os:List Du} {net:Bool} {xs:List Int} {i:Nat} {d:Du} {x:Int} (hd:os[i]? = some d) (hx:xs[i]? = some x) (k:Nat):EI rs os net xs (i+1) k=EI rs os net xs i k+(one (d.to.toNat=k) - one (d.fr.toNat=k))*x:=by
 unfold EI
 rw [Fb,Px (EM hd),Pw (EM hd),show flE xs i=x from AU hx]
 unfold E9
 dsimp only
 omega
theorem ZG {f g:Nat→Int} {n k:Nat} (h1:∀ q,q≠k→g q=f q):(tab f n).set k (g k)=tab g n:=by
 apply List.ext_getElem?
 intro j
 rw [List.getElem?_set]
 by_cases hj:j<n
 ·rw [B4 hj,B4 hj]
  by_cases h:k=j
  ·subst h; rw [if_pos rfl,if_pos (by rw [Cy]; exact hj)]
  ·rw [if_neg h,h1 j (Ne.symm h)]
 ·rw [List.getElem?_eq_none (by rw [Cy]; omega),List.getElem?_eq_none (by rw [Cy]; omega)]
  split
  ·rw [if_neg (by rw [Cy]; omega)]
  ·rfl
theorem OS.setI {a:Option Addr} {n c:Nat} {full:List Value} {f g:Nat→Int} (O:OS a n c 1 full ((tab f n).flatMap I1)) {k:Nat} (hk:k<n) (h1:∀ q,q≠k→g q=f q):OS a n c 1 (full.set k (.int .i64 (g k))) ((tab g n).flatMap I1):=by
 have h:=OS.over O (fun _=>rfl) (B4 hk) (g k)
 rw [ZG h1,Nat.mul_one] at h
 exact h
theorem Ad1 {a:Option Addr} {n c:Nat} {full L M:List Value} (O:OS a n c 1 full L) (hM:M.length=n):OS a n c 1 (over full 0 M) M:=by
 have hl:=O.len
 have hle:=O.le
 refine ⟨O.zero,O.none',by rw [DV]; exact O.len,O.le,?_⟩
 have h:=PY [] (full.take n) (full.drop n) M (by rw [List.length_take]; omega)
 simp only [List.nil_append,List.take_append_drop,List.length_nil] at h
 rw [h,Nat.mul_one,List.take_left' hM]
theorem Ys (n:Nat):(tab (fun _=>0) n).flatMap I1=(List.replicate n [Value.int .i64 0]).flatten:=by
 unfold tab
 rw [List.map_const',List.length_range,List.flatMap_def,List.map_replicate]
theorem OS.getI {a:Option Addr} {n c:Nat} {full:List Value} {f:Nat→Int} (O:OS a n c 1 full ((tab f n).flatMap I1)) {k:Nat} (hk:k<n):full[k]? = some (.int .i64 (f k)):=by
 have h1:(full.take (n*1))[k]? = full[k]? := by rw [List.getElem?_take,if_pos (by omega)]
 rw [← h1,O.pre,Tn (f:=fun x=>Value.int .i64 x),List.getElem?_map,B4 hk]
 rfl
structure PmS where
 i:Nat
 full:List Value
set_option maxRecDepth 20000 in
set_option maxHeartbeats 4000000 in
theorem KW (a b p:Option Addr) (n c m e u f:Nat) (rs:List Int) (ds:List Du) (net:Bool) (xs:List Int) (w:World) (R:Rd w a 1 I1 rs) (hn:rs.length=n) (hn2:n≤1000000) (Rd':Rd w b 7 CP ds) (hm:ds.length=m) (hm2:m≤1000000) (Rp:Rd w p 1 I1 xs) (hu:xs.length=u) (hu2:u≤1000000) :
  Ret Tryz.prog 47 #[.slice a n c,.slice b m e,.bool net,.slice p u f] w fun v w'=>(∃ z,v = .bool z∧(z=true↔PermP rs ds net xs))∧Ext [] w w':=by
 subst hn hm hu
 obtain ⟨w0,rfl⟩:∃ w0,w0=w:=⟨_,rfl⟩
 have H:=Ctx.start w0 []
 obtain ⟨br,hbr⟩:∃ br,br=CS rs ds:=⟨_,rfl⟩
 refine A0 (fn:=Tryz.f47) Tryz.func47 rfl [.slice a rs.length c,.slice b ds.length e,.bool net,.slice p xs.length f] rfl (by kernel_rfl) ?_
 refine Af (B2 rfl [.bool net] (.bool _) rfl rfl H ?_)
 rintro b6 w - H
 refine Ai rfl rfl (Ab (Aa (Aq (Af (Ak rfl rfl (Ak rfl rfl (Al rfl Wd (NX a b rs.length c ds.length e rs ds _ (R.ext0 H.ext) rfl hn2 (Rd'.ext0 H.ext) rfl hm2) rfl ?_)))))))
 rintro v w ⟨rfl,hx14⟩
 replace H:=H.call hx14
 rw [← hbr]
 refine Bv rfl rfl (Ab (Aa (Ax _ rfl ?_ ?_)))
 ·intro h1
  replace h1:=B0 h1
  refine Af (Ai rfl rfl (Ab (Aa (A9 (Am (AC (v:=(.bool _)) rfl rfl rfl ?_))))))
  refine ⟨⟨false,rfl,fun h=>(by cases h),fun h=>?_⟩,H.ext⟩
  have:=(G6 hm2).2 h.B
  rw [← hbr,h1] at this
  cases this
 ·intro h1
  replace h1:=B1 h1
  have hB:Bright rs ds:=(G6 hm2).1 (by rw [← hbr]; exact h1)
  have hBo:=hB.open'
  have hol:=Km ds
  refine Aw (Aa (Af (Ak rfl rfl (Al rfl Sc (Pt b ds.length e ds _ (Rd'.ext0 H.ext) rfl hm2) rfl ?_))))
  rintro v w F
  obtain ⟨ao,no,co,fo,rfl,OO,hbo⟩:=F.ex
  replace H:=H.call F.ext
  refine A6 rfl rfl (Ab (Aa (Aq ?_)))
  obtain rfl:no=(opn ds).length:=OO.numN (fun _ _=>rfl) (by decide)
  have RO0:Rd w ao 7 CP (opn ds):=OS.rd OO (fun y hy=>(hbo y hy).1) (fun _ _=>rfl) (by decide)
  obtain ⟨w1,hw1⟩:∃ x,x=w:=⟨_,rfl⟩
  rw [← hw1] at RO0
  have hsz:w0.heap.size≤w1.heap.size:=by rw [hw1]; exact H.ext.size
  have hE1:Ext [] w0 w1:=by rw [hw1]; exact H.ext
  have hb6:w1.heap[b6]? = some (Bl 4 [.bool net]):=by rw [hw1]; exact H.get at0
  subst hw1
  clear H
  have H:=Ctx.start w1 []
  refine Af (Ak rfl rfl (Be rfl CC rfl (Ak rfl rfl (Be rfl AX rfl (CY rfl rfl rfl (Ab (Aa (Ax _ rfl ?_ ?_))))))))
  ·intro h2
   replace h2:=Dz h2
   refine Af (Ai rfl rfl (Ab (Aa (A9 (Am (AC (v:=(.bool _)) rfl rfl rfl ?_))))))
   refine ⟨⟨false,rfl,fun h=>(by cases h),fun h=>?_⟩,hE1.trans H.ext⟩
   have:=h.pay.1
   exact absurd (by omega) h2
  ·intro h2
   replace h2:=D0 h2
   have hlen:(opn ds).length=xs.length:=by omega
   refine Aw (Aa (Af (Ak rfl rfl (Al rfl Aay (Vg a rs.length c rs _ (R.ext0 (hE1.trans H.ext)) rfl (by omega)) rfl ?_))))
   rintro v w F
   obtain ⟨a9,n9,c9,f9,rfl,O9,hb9⟩:=F.ex
   replace H:=Ctx.callEnt H F.ext hb9 K8
   refine A6 rfl rfl (Ab (Aa (Aq ?_)))
   rw [show rs.map J9=(tab (fun k=>rs.getD k 0) rs.length).flatMap I1 by rw [Su,← Tn]; rfl] at O9
   obtain rfl:n9=rs.length:=by have:=O9.numN (fun x hx=>rfl) (by decide); rw [Cy] at this; exact this
   refine Af (AY rfl Hh rfl ((by rw [An (H.ext.to hb6 (by simp))]; rfl)) ?_)
   refine Ab (Aa (Ea 67108864 (α:=List Value) (fun _=>[]) (fun full w'=>Ctx w1 [] w' (ent a9 2 full)∧OS a9 rs.length c9 1 full ((tab (EI rs (opn ds) net xs 0) rs.length).flatMap I1)) rfl ?_ ?_))
   ·skip
    refine Ax _ rfl ?_ ?_
    ·intro h3
     have hz:∀ k,EI rs (opn ds) net xs 0 k=0:=fun k=>by unfold EI Jv; rw [if_pos h3]; rfl
     rcases Nat.eq_zero_or_pos rs.length with h0 | h0
     ·skip
      refine Ap (Ak rfl rfl (V5 (a:=a9) (c:=c9) rfl AX (show Value.slice a9 rs.length c9=_ by rw [h0]) ?_))
      refine Ab (Aa ?_)
      refine ⟨f9,rfl,trivial,H,?_⟩
      rw [h0] at O9 ⊢
      exact O9
     ·skip
      obtain ⟨b9,rfl⟩:∃ b9,a9=some ⟨b9,0,none⟩:=by
       cases ha:a9 with
       | none=>have:=O9.none' ha; have:=O9.le; omega
       | some p9=>exact ⟨p9.block,congrArg some (O9.zero p9 ha)⟩
      have hl9:=O9.len
      have hle9:=O9.le
      refine Ap (Ak rfl rfl (IX (l:=f9) rfl AX FX rfl (by simp [Bu]) rfl H at0 (by simp; omega) ?_))
      rintro w H
      refine Ab (Aa ?_)
      refine ⟨_,rfl,trivial,H,?_⟩
      rw [TE (g:=fun _=>0) fun k _=>hz k,Ys]
      exact Ad1 O9 (by simp)
    ·intro h3
     refine Aw (Aa ?_)
     refine ⟨f9,rfl,trivial,H,?_⟩
     rw [TE (g:=fun k=>rs.getD k 0) fun k _=>by unfold EI Jv; rw [if_neg (by rw [h3]; decide)]; show rs.getD k 0+0=_; omega]
     exact O9
   ·rintro full j7 w ⟨H,O⟩
    have hRf:∀ {w:World},Ext [] w1 w→Rd w ao 7 CP (opn ds):=fun h=>RO0.ext0 h
    have hRp:∀ {w:World},Ext [] w1 w→Rd w p 1 I1 xs:=fun h=>Rp.ext0 (hE1.trans h)
    refine Aq (Af (Ak rfl rfl (Be rfl CC rfl (Ad rfl rfl (Ab (Aa (Av (Bm 2361183241434285739264 (α:=PmS) (fun t=>[(29,.int .i64 (t.i:Int))]) (fun t w'=>t.i≤(opn ds).length∧Ctx w1 [] w' (ent a9 2 t.full)∧OS a9 rs.length c9 1 t.full ((tab (EI rs (opn ds) net xs t.i) rs.length).flatMap I1)∧∀ (j:Nat) (d:Du) (x:Int),j<t.i→(opn ds)[j]? = some d→xs[j]? = some x→0≤x∧x≤d.am) (fun t=>(opn ds).length - t.i) ⟨0,full⟩ rfl ?_ ?_ ?_))))))))
    ·exact ⟨rfl,trivial⟩
    ·exact ⟨Nat.zero_le _,H,O,fun j d x h=>absurd h (Nat.not_lt_zero _)⟩
    ·clear H O
     rintro ⟨i,full⟩ jj w ⟨hi,H,O,hpi⟩; dsimp only at hi H O hpi; dsimp only
     refine Af (AV rfl rfl rfl (Ab (Aa (Aq (Ax _ rfl ?_ ?_)))))
     ·intro h3
      replace h3:=AE h3
      obtain ⟨d,hd⟩:=A4 (l:=opn ds) (i:=i) (by omega)
      obtain ⟨x,hxv⟩:=A4 (l:=xs) (i:=i) (by omega)
      obtain ⟨hmay,hfr2,hto2⟩:=hBo.due d (List.mem_of_getElem? hd)
      have hma:=DM hmay
      have hbnd:∀ k,k<rs.length → -9007199254740992≤EI rs (opn ds) net xs i k∧EI rs (opn ds) net xs i k≤9007199254740992:=fun k hk=>by
       have h4:=Nb (rs:=rs) (net:=net) (Nat.le_of_eq hlen) k i (by omega) hpi
       have h5:=Ou (xs:=(opn ds).map Du.am) (fun y hy=>by obtain ⟨d',hd',rfl⟩:=List.mem_map.1 hy; have:=DM (hBo.due d' hd').1; omega) i
       have h6:=hBo.tot
       have h7:0≤Jv rs net k∧Jv rs net k≤4503599627370496:=by
        unfold Jv
        obtain ⟨y,hy⟩:=A4 hk
        split
        ·omega
        ·rw [AU hy]; exact Ey.1 (hB.may y (List.mem_of_getElem? hy))
       unfold EI
       omega
      refine Aw (Aa (Aq (Av (Af (Ad rfl rfl (Ba (hRf H.ext) rfl CC CA rfl rfl (by omega) (by omega) (by rfl) ?_))))))
      refine Cx _ rfl GJ CA rfl rfl ((hRf H.ext).row hd rfl) ?_
      refine Bo rfl Fp H ?_
      rintro b11 w - H
      refine Ae rfl rfl (BP rfl CA rfl rfl rfl (by exact Ez _) H at0 rfl ?_)
      rintro w H
      refine Ab (Aa (Aq ?_))
      obtain ⟨b9,rfl⟩:∃ b9,a9=some ⟨b9,0,none⟩:=by
       cases ha:a9 with
       | none=>have:=O.none' ha; have:=O.le; omega
       | some p9=>exact ⟨p9.block,congrArg some (O.zero p9 ha)⟩
      replace H:Ctx w1 [] w [(b11,Bl 62 (CP d)),(b9,Bl 2 full)]:=H
      refine CH [([0,1,2,3,4,5,6,7,8,9,10,11,12],13)] (fun z=>Ext [] w1 z∧z.heap[b11]? = some (Bl 62 (CP d))) [] Bz (by kernel_rfl) (⟨H.drew.ext,H.drew.get at0⟩) ?_
      refine AO rfl rfl ?_
      refine Bj rfl rfl (AN rfl rfl (CE (hRp H.ext) rfl AX Bw rfl rfl (by omega) (by omega) (by rfl) ?_))
      refine BQ rfl B9 rfl (fun _ hx=>((hRp hx.1).one (f:=J9) hxv)) ?_
      refine t_lss rfl rfl rfl (Tq rfl rfl (PV 39 rfl ?_ ?_))
      ·intro g1
       replace g1:=AE g1
       refine E8 rfl (E8 rfl (E8 rfl (E8 rfl (E8 rfl (E8 rfl (E8 rfl (Bx ?_)))))))
       replace H:=H.drew
       refine A3 rfl rfl (.bool _) rfl (Ab (C2 (⟨H.ext,H.get at0⟩) (BL (CI rfl (Af (Ai rfl rfl (Ab (Aa (A9 (Am (A7 (Am (Am (A7 (Am (AC (v:=(.bool _)) rfl rfl rfl ?_))))))))))))))))
       refine ⟨⟨false,rfl,fun h=>(by cases h),fun h=>?_⟩,hE1.trans H.ext⟩
       have:=h.pay.2 i d x hd hxv
       omega
      ·intro g1
       replace g1:=AF g1
       refine Bj rfl rfl (AN rfl rfl (CE (hRp H.ext) rfl AX Bw rfl rfl (by omega) (by omega) (by rfl) ?_))
       refine BQ rfl B9 rfl (fun _ hx=>((hRp hx.1).one (f:=J9) hxv)) ?_
       refine AL rfl JX rfl (BQ rfl B9 rfl (fun _ hx=>(by rw [An hx.2]; rfl)) ?_)
       refine t_gtr rfl rfl rfl (Bx ?_)
       replace H:=H.drew
       refine AA rfl rfl (.bool _) rfl (Ab (C2 (⟨H.ext,H.get at0⟩) (BL (Ax _ rfl ?_ ?_))))
       ·intro g2
        replace g2:=AE g2
        refine Af (Ai rfl rfl (Ab (Aa (A9 (Am (A7 (Am (Am (A7 (Am (AC (v:=(.bool _)) rfl rfl rfl ?_)))))))))))
        refine ⟨⟨false,rfl,fun h=>(by cases h),fun h=>?_⟩,hE1.trans H.ext⟩
        have:=h.pay.2 i d x hd hxv
        omega
       ·intro g2
        replace g2:=AF g2
        have hxr:0≤x∧x≤d.am:=by omega
        have hst:=Tb (rs:=rs) (net:=net) hd hxv
        obtain ⟨id',fr',to',am',we',un',held'⟩:=d
        dsimp only at hst hfr2 hto2 hma hxr
        obtain ⟨fn,rfl⟩:∃ fn:Nat,fr'=fn:=⟨fr'.toNat,by omega⟩
        obtain ⟨tn,rfl⟩:∃ tn:Nat,to'=tn:=⟨to'.toNat,by omega⟩
        rw [Int.toNat_natCast,Int.toNat_natCast] at hst
        have hfl:fn<rs.length:=by omega
        have htl:tn<rs.length:=by omega
        have hft:fn≠tn:=by omega
        have hbf:=hbnd fn hfl
        have hbt:=hbnd tn htl
        obtain ⟨F0,hF0⟩:∃ F0,F0=EI rs (opn ds) net xs i:=⟨_,rfl⟩
        rw [← hF0] at O hst hbf hbt
        have hg0:full[fn]? = some (.int .i64 (F0 fn)):=OS.getI O hfl
        obtain ⟨F1,hF1⟩:∃ F1,F1=upd F0 fn (F0 fn - x):=⟨_,rfl⟩
        have hof:F1 fn=F0 fn - x:=by rw [hF1,CW]
        have hon:∀ k,k≠fn→F1 k=F0 k:=fun k hk=>by rw [hF1,DG hk]
        have O1:=OS.setI O hfl hon
        have hg1:(full.set fn (.int .i64 (F1 fn)))[tn]? = some (.int .i64 (F1 tn)):=OS.getI O1 htl
        have hot:F1 tn=F0 tn:=hon tn (Ne.symm hft)
        have hst2:∀ k,k≠tn→EI rs (opn ds) net xs (i+1) k=F1 k:=fun k hk=>by
         rw [hst,Fa (Ne.symm hk)]
         by_cases h7:fn=k
         ·subst h7; rw [FQ rfl,hof]; omega
         ·rw [Fa h7,hon k (Ne.symm h7)]; omega
        have hst3:EI rs (opn ds) net xs (i+1) tn=F1 tn+x:=by
         rw [hst,FQ rfl,Fa hft,hot]; omega
        have O2:=OS.setI O1 htl hst2
        have hlf:full.length=c9:=by have:=O.len; omega
        have hle9:=O.le
        refine Aw (Aa (CH [([0,1,2,3,4,5,6,7,8,9,10],11)] (fun z=>Ext [] w1 z∧z.heap[b11]? = some (Bl 62 (CP ⟨id',(fn:Int),(tn:Int),am',we',un',held'⟩))∧z.heap[b9]? = some (Bl 2 full)) [11] Bz (by kernel_rfl) (⟨H.drew.ext,H.drew.get at0,H.drew.get at1⟩) ?_))
        refine AO rfl rfl ?_
        refine Bj rfl rfl (AL rfl JV rfl (BQ rfl BS rfl (fun _ hx=>((An hx.2.1 1).trans (show _=some (Value.int .i64 (fn:Int)) from rfl))) ?_))
        refine A8 rfl AX Bw rfl rfl (by omega) (by omega) ?_
        refine BQ rfl B9 rfl (fun _ hx=>((An hx.2.2 (0+fn*1)).trans (by rw [Nat.zero_add,Nat.mul_one]; exact hg0))) ?_
        refine Bj rfl rfl (AN rfl rfl (CE (hRp H.ext) rfl AX Bw rfl rfl (by omega) (by omega) (by rfl) ?_))
        refine BQ rfl B9 rfl (fun _ hx=>((hRp hx.1).one (f:=J9) hxv)) ?_
        refine Ek rfl rfl rfl (by omega) (by omega) ?_
        refine A8 rfl AX Bw rfl rfl (by omega) (by omega) ?_
        refine Bx ?_
        replace H:=H.drew
        refine BV (.int .i64 (F1 fn)) rfl Bw rfl (congrArg (Value.int .i64) hof.symm) rfl H at1 (show 0+fn*1<full.length by omega) ?_
        rintro w H
        refine Ab (BE rfl (BL ?_))
        replace H:Ctx w1 [] w [(b11,Bl 62 (CP ⟨id',(fn:Int),(tn:Int),am',we',un',held'⟩)),(b9,Bl 2 (full.set fn (.int .i64 (F1 fn))))]:=by rw [show 0+(fn:Int).toNat*1=fn by simp] at H; exact H
        obtain ⟨full1,hfull1⟩:∃ z,z=full.set fn (.int .i64 (F1 fn)):=⟨_,rfl⟩
        have hl1:full1.length=full.length:=by rw [hfull1,List.length_set]
        rw [← hfull1] at H hg1 O1 O2
        refine E7 [([0,1,2,3,4,5,6,7,8,9,10],11)] (fun z=>Ext [] w1 z∧z.heap[b11]? = some (Bl 62 (CP ⟨id',(fn:Int),(tn:Int),am',we',un',held'⟩))∧z.heap[b9]? = some (Bl 2 full1)) [11] Bz (by kernel_rfl) (⟨H.drew.ext,H.drew.get at0,H.drew.get at1⟩) ?_
        refine AO rfl rfl ?_
        refine Bj rfl rfl (AL rfl JW rfl (BQ rfl BS rfl (fun _ hx=>((An hx.2.1 2).trans (show _=some (Value.int .i64 (tn:Int)) from rfl))) ?_))
        refine A8 rfl AX Bw rfl rfl (by omega) (by omega) ?_
        refine BQ rfl B9 rfl (fun _ hx=>((An hx.2.2 (0+tn*1)).trans (by rw [Nat.zero_add,Nat.mul_one]; exact hg1))) ?_
        refine Bj rfl rfl (AN rfl rfl (CE (hRp H.ext) rfl AX Bw rfl rfl (by omega) (by omega) (by rfl) ?_))
        refine BQ rfl B9 rfl (fun _ hx=>((hRp hx.1).one (f:=J9) hxv)) ?_
        refine Dy rfl rfl rfl (by omega) (by omega) ?_
        refine A8 rfl AX Bw rfl rfl (by omega) (by omega) ?_
        refine Bx ?_
        replace H:=H.drew
        refine BV (.int .i64 (EI rs (opn ds) net xs (i+1) tn)) rfl Bw rfl (congrArg (Value.int .i64) hst3.symm) rfl H at1 (show 0+tn*1<full1.length by omega) ?_
        rintro w H
        refine Ab (BE rfl (BL (A2 (Aa (Ap (Ao rfl rfl rfl (by omega) (by omega) ?_))))))
        refine Ad rfl rfl (Ab (Aa ?_))
        replace H:Ctx w1 [] w [(b11,Bl 62 (CP ⟨id',(fn:Int),(tn:Int),am',we',un',held'⟩)),(b9,Bl 2 (full1.set tn (.int .i64 (EI rs (opn ds) net xs (i+1) tn))))]:=by rw [show 0+(tn:Int).toNat*1=tn by simp] at H; exact H
        refine ⟨⟨i+1,_⟩,rfl,⟨rfl,trivial⟩,⟨by dsimp only; omega,H.tail,O2,fun k d' x' hk hd' hx'=>?_⟩,by dsimp only; omega⟩
        rcases Nat.lt_or_ge k i with h7 | h7
        ·exact hpi k d' x' h7 hd' hx'
        ·obtain rfl:k=i:=by dsimp only at hk; omega
         rw [hd] at hd'
         rw [hxv] at hx'
         cases hd'
         cases hx'
         exact hxr
     ·intro h3
      replace h3:=AF h3
      obtain rfl:i=(opn ds).length:=by omega
      have hpay:PayIn (opn ds) xs:=⟨hlen,fun k d x hd hx=>hpi k d x (Cr hd) hd hx⟩
      have RL:Rd w a9 1 I1 (tab (EI rs (opn ds) net xs (opn ds).length) rs.length):=OS.rd O (fun y hy=>H.blk y hy) (fun _ _=>rfl) (by decide)
      refine Bh (Aj (Aj (AB (Aa (Af (Ak rfl rfl (Ch rfl [.pointer _] rfl (Al rfl Aaz (Yr net b6 a9 rs.length c9 _ _ (H.ext.to hb6 (by simp)) RL (Cy _ _) hn2) rfl ?_))))))))
      rintro v w ⟨rfl,hx73⟩
      replace H:=H.call hx73
      refine Bv rfl rfl (Ai rfl rfl (Ab (Aa (A9 (AC (v:=(.bool _)) rfl rfl rfl ?_)))))
      refine ⟨⟨_,rfl,?_⟩,hE1.trans H.ext⟩
      rw [Bool.not_eq_true',← Bool.not_eq_true,List.any_eq_true]
      constructor
      ·intro hno
       refine ⟨hB,hpay,fun k hk=>?_⟩
       have hlk:Nc rs (opn ds) net xs k=EI rs (opn ds) net xs (opn ds).length k:=rfl
       rw [hlk]
       have h7:Ng net (EI rs (opn ds) net xs (opn ds).length k)=false:=by
        cases h8:Ng net (EI rs (opn ds) net xs (opn ds).length k) with
        | false=>rfl
        | true=>exact absurd ⟨_,List.mem_of_getElem? (B4 hk),h8⟩ hno
       unfold Ng at h7
       rw [Bool.or_eq_false_iff,decide_eq_false_iff_not] at h7
       refine ⟨by omega,fun hnt=>?_⟩
       have h9:=h7.2
       simp only [hnt,Bool.true_and,Bool.not_eq_false',decide_eq_true_eq] at h9 ⊢
       exact h9
      ·rintro P ⟨y,hy,hlow⟩
       obtain ⟨k,hk⟩:=List.mem_iff_getElem?.1 hy
       obtain ⟨hkl,rfl⟩:=MA hk
       have h7:=P.left k hkl
       have hlk:Nc rs (opn ds) net xs k=EI rs (opn ds) net xs (opn ds).length k:=rfl
       rw [hlk] at h7
       unfold Ng at hlow
       rw [Bool.or_eq_true,decide_eq_true_eq,Bool.and_eq_true,Bool.not_eq_true',decide_eq_false_iff_not] at hlow
       rcases hlow with h8 | ⟨h8,h9⟩
       ·omega
       ·exact h9 (h7.2 h8)
set_option maxRecDepth 20000 in
set_option maxHeartbeats 4000000 in
theorem Ro (b p:Option Addr) (m e u f:Nat) (ds:List Du) (xs:List Int) (w:World) (Rd':Rd w b 7 CP ds) (hm:ds.length=m) (hm2:m≤1000000) (Rp:Rd w p 1 I1 xs) (hu:xs.length=u) (hp:PayIn (opn ds) xs) (hmay:∀ d∈opn ds,EG d=true) (htot:D6 ((opn ds).map Du.am)≤4503599627370496) :
  Ret Tryz.prog 48 #[.slice b m e,.slice p u f] w fun v w'=>v = .int .i64 (Fv (opn ds) xs (opn ds).length)∧Ext [] w w':=by
 subst hm hu
 obtain ⟨w0,rfl⟩:∃ w0,w0=w:=⟨_,rfl⟩
 have H:=Ctx.start w0 []
 have hol:=Km ds
 refine A0 (fn:=Tryz.f48) Tryz.func48 rfl [.slice b ds.length e,.slice p xs.length f] rfl (by kernel_rfl) ?_
 refine Af (Ae rfl rfl (Ab (Aa (Af (Ak rfl rfl (Al rfl Sc (Pt b ds.length e ds _ Rd' rfl hm2) rfl ?_))))))
 rintro v w F
 obtain ⟨ao,no,co,fo,rfl,OO,hbo⟩:=F.ex
 replace H:=H.call F.ext
 refine A6 rfl rfl (Ab (Aa (Aq ?_)))
 obtain rfl:no=(opn ds).length:=OO.numN (fun _ _=>rfl) (by decide)
 have RO0:Rd w ao 7 CP (opn ds):=OS.rd OO (fun y hy=>(hbo y hy).1) (fun _ _=>rfl) (by decide)
 have hE1:=H.ext
 obtain ⟨w1,rfl⟩:∃ x,x=w:=⟨_,rfl⟩
 clear H
 have H:=Ctx.start w1 []
 have hlen:=hp.1
 have hRf:∀ {w:World},Ext [] w1 w→Rd w ao 7 CP (opn ds):=fun h=>RO0.ext0 h
 have hRp:∀ {w:World},Ext [] w1 w→Rd w p 1 I1 xs:=fun h=>Rp.ext0 (hE1.trans h)
 refine Af (Ak rfl rfl (Be rfl CC rfl (Ak rfl rfl (Be rfl AX rfl (CY rfl rfl rfl (Ab (Aa (Ax _ rfl ?_ ?_))))))))
 ·intro h1
  replace h1:=Dz h1
  omega
 ·intro h1
  replace h1:=D0 h1
  refine Aw (Aa (Af (Ae rfl rfl (Ab (Aa (Aq (Af (Ak rfl rfl (Be rfl CC rfl (Ad rfl rfl (Ab (Aa ?_))))))))))))
  refine Av (Bm 4294836448 (α:=Nat) (fun i=>[(17,.int .i64 (i:Int)),(5,.int .i64 (Fv (opn ds) xs i))]) (fun i w'=>i≤(opn ds).length∧Ctx w1 [] w' []) (fun i=>(opn ds).length - i) 0 rfl ?_ ?_ ?_)
  ·exact ⟨rfl,rfl,trivial⟩
  ·exact ⟨Nat.zero_le _,H⟩
  ·clear H
   rintro i j w ⟨hi,H⟩
   refine Af (AV rfl rfl rfl (Ab (Aa (Aq (Ax _ rfl ?_ ?_)))))
   ·intro h3
    replace h3:=AE h3
    obtain ⟨d,hd⟩:=A4 (l:=opn ds) (i:=i) (by omega)
    obtain ⟨x,hxv⟩:=A4 (l:=xs) (i:=i) (by omega)
    have hma:=DM (hmay d (List.mem_of_getElem? hd))
    have hxr:=hp.2 i d x hd hxv
    have hwe:∀ d∈opn ds,0≤d.we∧d.we≤1000:=fun d hd=>by have:=DM (hmay d hd); omega
    have hps:∀ k,D6 (((opn ds).map Du.am).take k)≤4503599627370496:=fun k=>Int.le_trans (Ou (fun y hy=>by obtain ⟨d',hd',rfl⟩:=List.mem_map.1 hy; have:=DM (hmay d' hd'); omega) k) htot
    have hw0:=Ib hp hwe i hi
    have hw1:=Ib hp hwe (i+1) (by omega)
    have hp0:=hps i
    have hp1:=hps (i+1)
    have hstep:=Lt hd hxv
    have hm1:0≤d.we*x:=Int.mul_nonneg (by omega) hxr.1
    have hm2:d.we*x≤4503599627370496000:=by omega
    refine Aw (Aa (Aq (Av (Af (Ad rfl rfl (Ba (hRf H.ext) rfl CC CA rfl rfl (by omega) (by omega) (by rfl) ?_))))))
    refine Cx _ rfl GJ CA rfl rfl ((hRf H.ext).row hd rfl) ?_
    refine Bo rfl Fp H ?_
    rintro b7 w - H
    refine Ae rfl rfl (BP rfl CA rfl rfl rfl (by exact Ez _) H at0 rfl ?_)
    rintro w H
    refine Ab (Aa ?_)
    replace H:Ctx w1 [] w [(b7,Bl 62 (CP d))]:=H
    refine E7 [([0,1,2,3,4,5,6,7,8],9)] (fun z=>Ext [] w1 z∧z.heap[b7]? = some (Bl 62 (CP d))) [] Bz (by kernel_rfl) (⟨H.drew.ext,H.drew.get at0⟩) ?_
    refine AO rfl rfl ?_
    refine AN rfl rfl (AL rfl LC rfl (BQ rfl B9 rfl (fun _ hx=>(by rw [An hx.2]; rfl)) ?_))
    refine Bj rfl rfl (AN rfl rfl (CE (hRp H.ext) rfl AX Bw rfl rfl (by omega) (by omega) (by rfl) ?_))
    refine BQ rfl B9 rfl (fun _ hx=>((hRp hx.1).one (f:=J9) hxv)) ?_
    refine N8 rfl rfl rfl (by omega) (by omega) ?_
    refine Dy rfl rfl rfl (by omega) (by omega) ?_
    refine Bx ?_
    replace H:=H.drew
    refine Ae rfl rfl (Ab (C2 (⟨H.ext,H.get at0⟩) (BL (A2 (Aa (Ap (Ao rfl rfl rfl (by omega) (by omega) ?_)))))))
    refine Ad rfl rfl (Ab (Aa ?_))
    exact ⟨i+1,rfl,⟨rfl,congrArg (Value.int .i64) hstep.symm,trivial⟩,⟨by omega,H.tail⟩,by omega⟩
   ·intro h3
    replace h3:=AF h3
    obtain rfl:i=(opn ds).length:=by omega
    refine Bh (Aj (Aj (AB (Aa (Af (Ad rfl rfl (Ae rfl rfl (Ab (Aa (A9 (AC (v:=(.int _ _)) rfl rfl rfl ?_)))))))))))
    exact ⟨rfl,hE1.trans H.ext⟩
end Go.Proofs.YtapphbmlkdhnmaaGreat

/- The law of turned rounds: the walk. -/
namespace Go.Proofs.YtapphbmlkdhnmaaGreat
open Go.GV
attribute [local irreducible] A1 W Wq Wt

theorem ZH {rs:List Int} {ds:List Du} {net:Bool} {r:Rnd} (P:PlnR rs ds net r):r.ids.length≤ds.length:=by
 rw [P.ids,List.length_map]
 exact List.length_filter_le _ _
end Go.Proofs.YtapphbmlkdhnmaaGreat

/- The law of what is planned being the best that may be paid: the walk. -/
namespace Go.Proofs.YtapphbmlkdhnmaaGreat
open Go.GV
attribute [local irreducible] A1 W Wq Wt

structure BsS where
 i:Nat
 a:Option Addr
 c:Nat
 full:List Value
theorem ZI {r:Rnd} (hR:B7 r=true) {i:Nat} {id x:Int} {e:Ed} (hid:r.ids[i]? = some id) (hx:r.fl[i]? = some x) (he:r.es[i]? = some e):Jq r id=(x,e.cap,0):=by
 have hn:=(Ko hR).nd
 unfold Jq
 rw [if_pos hR,Oe hid fun k y hk hy=>MP.1 hn k i y id hk hy hid]
 dsimp only
 rw [AU hx,AU he]
theorem Uo {rs:List Int} {os:List Du} {net:Bool} {fl:List Int} (h:∀ (k:Nat) (x:Int),rs[k]? = some x→(net=true→byK rs os net fl k=0) ∧ -x≤byK rs os net fl k∧byK rs os net fl k≤4503599627370496) {k:Nat} (hk:k≤rs.length) (hB:∀ x∈rs,x≤4503599627370496) : -(4503599627370496*(k:Int))≤Bn (byK rs os net fl) k∧Bn (byK rs os net fl) k≤4503599627370496*(k:Int):=by
 induction k with
 | zero=>exact ⟨Int.le_refl _,Int.le_refl _⟩
 | succ k ih =>
  have h1:=ih (by omega)
  obtain ⟨x,hx⟩:=A4 (l:=rs) (i:=k) (by omega)
  have h2:=(h k x hx).2
  have h3:=hB x (List.mem_of_getElem? hx)
  have h4:Bn (byK rs os net fl) (k+1)=Bn (byK rs os net fl) k+byK rs os net fl k:=rfl
  omega
set_option maxRecDepth 20000 in
set_option maxHeartbeats 16000000 in
theorem Tc (a b p:Option Addr) (n c m e u f:Nat) (rs:List Int) (ds:List Du) (net:Bool) (xs:List Int) (w:World) (R:Rd w a 1 I1 rs) (hn:rs.length=n) (Rd':Rd w b 7 CP ds) (hm:ds.length=m) (hds:∀ d∈ds,0≤d.id∧d.id<18446744073709551616) (Rp:Rd w p 1 I1 xs) (hu:xs.length=u) :
  Ret Tryz.prog 9 #[.slice a n c,.slice b m e,.bool net,.slice p u f] w fun v w'=>v = .bool true∧Ext [] w w':=by
 subst hn hm hu
 obtain ⟨w0,rfl⟩:∃ w0,w0=w:=⟨_,rfl⟩
 have H:=Ctx.start w0 []
 refine A0 (fn:=Tryz.f9) Tryz.func9 rfl [.slice a rs.length c,.slice b ds.length e,.bool net,.slice p xs.length f] rfl (by kernel_rfl) ?_
 refine Af (Ai rfl rfl (Ab (Aa (Aq (Af (Ct (α:=Unit) 70360154243072 (fun _=>[(45,.bool ((decide (40<rs.length) || decide (100<ds.length)) || decide (300<xs.length)))]) (fun _ w'=>Ctx w0 [] w' []) rfl ?_ ?_))))))
 ·refine Ak rfl rfl (Be rfl AX rfl (C4 rfl rfl rfl (Ay rfl rfl (AH 36 rfl ?_ ?_))))
  ·intro h1
   replace h1:=AE h1
   refine Ag rfl (Ag rfl (Ag rfl (A3 rfl rfl (.bool _) rfl (Ay rfl rfl (Ag rfl (Ag rfl (Ag rfl (A3 rfl rfl (.bool _) rfl (Ab ?_)))))))))
   exact ⟨rfl,(),rfl,⟨congrArg Value.bool (by (rw [Bool.eq_iff_iff]; simp; omega)),trivial⟩,H⟩
  ·intro h2
   replace h2:=AF h2
   refine Ak rfl rfl (Be rfl CC rfl (C4 rfl rfl rfl (AA rfl rfl (.bool _) rfl (Ay rfl rfl (AH 41 rfl ?_ ?_)))))
   ·intro h3
    replace h3:=AE h3
    refine Ag rfl (Ag rfl (Ag rfl (A3 rfl rfl (.bool _) rfl (Ab ?_))))
    exact ⟨rfl,(),rfl,⟨congrArg Value.bool (by (rw [Bool.eq_iff_iff]; simp; omega)),trivial⟩,H⟩
   ·intro h4
    replace h4:=AF h4
    refine Ak rfl rfl (Be rfl AX rfl (C4 rfl rfl rfl (AA rfl rfl (.bool _) rfl (Ab ?_))))
    exact ⟨rfl,(),rfl,⟨congrArg Value.bool (by (rw [Bool.eq_iff_iff]; simp; omega)),trivial⟩,H⟩
 rintro - j45 w H
 refine Ax _ rfl ?_ ?_
 ·intro h1
  refine Af (Al rfl T3 (Ia _) rfl ?_)
  rintro v w ⟨rfl,hx46⟩
  replace H:=H.call hx46
  refine Ai rfl rfl (Ab (Aa (A9 (Am (AC (v:=(.bool _)) rfl rfl rfl ?_)))))
  exact ⟨rfl,H.ext⟩
 ·intro h1
  have hsz:rs.length≤40∧ds.length≤100∧xs.length≤300:=by
   simp only [Bool.or_eq_false_iff,decide_eq_false_iff_not] at h1
   omega
  refine Aw (Aa ?_)
  cases hbb:CS rs ds
  ·skip
   refine Af (Ak rfl rfl (Ak rfl rfl (Ay rfl rfl (Al rfl Wy (HZ a b _ c _ e rs ds net _ (R.ext0 H.ext) rfl (by omega) (Rd'.ext0 H.ext) rfl (by omega)) rfl ?_))))
   rintro v w ⟨hx51,⟨-,rfl⟩ | ⟨hb,-⟩⟩
   rotate_left
   (rw [hbb] at hb; cases hb)
   replace H:=H.call hx51
   refine BK rfl rfl (A5 rfl rfl rfl (A5 rfl rfl rfl (Bo rfl Hi H ?_)))
   rintro b9 w - H
   refine BP rfl Cp rfl rfl rfl (by exact (by decide)) H at0 rfl ?_
   rintro w H
   refine Ai rfl rfl (Ab (Aa (Aq (Af (Ay rfl rfl (Bv rfl rfl (Ab (Aa (CI rfl (Af (Al rfl T3 (Ia _) rfl ?_)))))))))))
   rintro v w ⟨rfl,hx56⟩
   replace H:=H.call hx56
   refine Ai rfl rfl (Ab (Aa (A9 (Am (AC (v:=(.bool _)) rfl rfl rfl ?_)))))
   exact ⟨rfl,H.ext⟩
  ·skip
   have hBr0:Bright rs ds:=(G6 (by omega)).1 hbb
   refine Af (Ak rfl rfl (Ak rfl rfl (Ay rfl rfl (Al rfl Wy (HZ a b _ c _ e rs ds net _ (R.ext0 H.ext) rfl (by omega) (Rd'.ext0 H.ext) rfl (by omega)) rfl ?_))))
   rintro v w ⟨hx51,⟨hb,-⟩ | ⟨-,r,q,rfl,P,RA,-,hEc⟩⟩
   (rw [hbb] at hb; cases hb)
   replace H:=H.call hx51
   have hB:=Ul P (by omega)
   have hU:=Yk P hds
   have hil:=ZH P
   have hx0:=H.ext
   obtain ⟨w1,rfl⟩:∃ z,z=w:=⟨_,rfl⟩
   replace H:=Ctx.start w1 []
   refine BK rfl rfl (A5 (v := .agg (AJ r q).toArray) rfl rfl rfl (A5 (v := .bool true) rfl rfl rfl (Bo rfl Hi H ?_)))
   rintro b9 w - H
   refine BP rfl Cp rfl rfl rfl (by exact (by simp [Bu])) H at0 rfl ?_
   rintro w H
   refine Ai rfl rfl (Ab (Aa (Aq (Af (Ay rfl rfl (Bv rfl rfl (Ab (Aa (EJ rfl (Aw (Aa (Aq ?_))))))))))))
   have hRA:∀ {z:World},Ext [] w1 z→RAt z r q:=fun h=>RA.ext0 h
   refine Af (Ae rfl rfl (Ab (Aa (Av (Bm 77371252311221079105345792 (α:=Nat) (fun i=>[(11,.int .i64 (i:Int))]) (fun i w'=>i≤r.ids.length∧Ctx w1 [] w' [(b9,Bl 33 (AJ r q))]∧∀ (k j:Nat) (x y:Int),k<j→j<i→r.ids[k]? = some x→r.ids[j]? = some y→x≠y) (fun i=>r.ids.length - i) 0 rfl ?_ ?_ ?_)))))
   ·exact ⟨rfl,trivial⟩
   ·exact ⟨Nat.zero_le _,H,fun k j x y _ h=>absurd h (Nat.not_lt_zero _)⟩
   ·clear H
    rintro i ji w ⟨hi,H,hap⟩
    refine Aq (Af (Ad rfl rfl (Ah rfl EK rfl (AM rfl Fy rfl H at0 rfl (Be rfl Bd rfl (AV rfl rfl rfl (Ab (Aa (Ax _ rfl ?_ ?_)))))))))
    ·intro h2
     replace h2:=AE h2
     obtain ⟨y,hy⟩:=A4 (l:=r.ids) (i:=i) (by omega)
     refine Aw (Aa (Aq (Av (Af (Ae rfl rfl (Ab (Aa (Av (Bm 77371234008592193471648000 (α:=Nat) (fun k=>[(12,.int .i64 (k:Int))]) (fun k w'=>k≤i∧Ctx w1 [] w' [(b9,Bl 33 (AJ r q))]∧∀ (j:Nat) (x:Int),j<k→r.ids[j]? = some x→x≠y) (fun k=>i - k) 0 rfl ?_ ?_ ?_)))))))))
     ·exact ⟨rfl,trivial⟩
     ·exact ⟨Nat.zero_le _,H,fun j x h=>absurd h (Nat.not_lt_zero _)⟩
     ·clear H
      rintro k jk w ⟨hk,H,hak⟩
      refine Aq (Af (Ad rfl rfl (Ad rfl rfl (AV rfl rfl rfl (Ab (Aa (Ax _ rfl ?_ ?_)))))))
      ·intro h3
       replace h3:=AE h3
       obtain ⟨x,hxv⟩:=A4 (l:=r.ids) (i:=k) (by omega)
       refine Aw (Aa (Aq (Av (FV (fun x=>x=_) Bz (by kernel_rfl) rfl ?_))))
       refine AD rfl EK rfl (Cs rfl Fy rfl (by rintro _ rfl; exact H.drew) at0 rfl ?_)
       refine AR rfl rfl (CD (hRA H.drew.ext).I rfl Bd AZ rfl rfl (by omega) (by omega) (by rfl) ?_)
       refine Cd rfl BD rfl (by rintro _ rfl; exact (((hRA H.drew.ext).I.one (f:=EP) hxv))) ?_
       refine AD rfl EK rfl (Cs rfl Fy rfl (by rintro _ rfl; exact H.drew) at0 rfl ?_)
       refine AR rfl rfl (CD (hRA H.drew.ext).I rfl Bd AZ rfl rfl (by omega) (by omega) (by rfl) ?_)
       refine Cd rfl BD rfl (by rintro _ rfl; exact (((hRA H.drew.ext).I.one (f:=EP) hy))) ?_
       refine Tl rfl rfl rfl (BW ?_)
       rintro _ rfl
       replace H:=H.drew
       refine Ax _ rfl ?_ ?_
       ·intro h4
        replace h4:=AE h4
        have hnd:¬ r.ids.Nodup:=fun h=>MP.1 h k i x y (by omega) hxv hy (by omega)
        refine Af (Cx _ rfl C6 Cp rfl rfl ((C8 (l:=AJ r q) (H.get at0) 0 (AJ r q) rfl)) ?_)
        refine Al rfl Lj (Fc r q _ (hRA H.ext) hEc hB) rfl ?_
        rintro v w ⟨rfl,hx81⟩
        replace H:=H.call hx81
        rw [V2 hnd]
        refine Bv rfl rfl (Ay rfl rfl (Al rfl T3 (Ia _) rfl ?_))
        rintro v w ⟨rfl,hx84⟩
        replace H:=H.call hx84
        refine A3 rfl rfl (.bool _) rfl (Ai rfl rfl (Ab (Aa (A9 (A7 (Am (Am (A7 (A7 (Am (Am (A7 (Am (AC (v:=(.bool _)) rfl rfl rfl ?_))))))))))))))
        exact ⟨rfl,hx0.trans H.ext⟩
       ·intro h4
        replace h4:=AF h4
        refine Aw (A2 (Aa (Ap (Ad rfl rfl (Ao rfl rfl rfl (by omega) (by omega) ?_)))))
        refine Ae rfl rfl (Ab (Aa ?_))
        refine ⟨k+1,rfl,⟨rfl,trivial⟩,⟨by omega,H,fun j x' hj hx'=>?_⟩,by omega⟩
        rcases Nat.lt_or_ge j k with h7 | h7
        ·exact hak j x' h7 hx'
        ·obtain rfl:j=k:=by omega
         rw [hxv] at hx'
         cases hx'
         omega
      ·intro h3
       replace h3:=AF h3
       refine Bh (Aj (Aj (AB (A2 (Aa (Ap (Ad rfl rfl (Ao rfl rfl rfl (by omega) (by omega) ?_))))))))
       refine Ae rfl rfl (Ab (Aa ?_))
       refine ⟨i+1,rfl,⟨rfl,trivial⟩,⟨by omega,H,fun k' j x' y' hkj hj hx' hy'=>?_⟩,by omega⟩
       rcases Nat.lt_or_ge j i with h7 | h7
       ·exact hap k' j x' y' hkj h7 hx' hy'
       ·obtain rfl:j=i:=by omega
        rw [hy] at hy'
        cases hy'
        exact hak k' x' (by omega) hx'
    ·intro h2
     replace h2:=AF h2
     have hnd:r.ids.Nodup:=MP.2 fun k j x y hkj hx hy=>hap k j x y hkj (by have:=Cr hy; omega) hx hy
     have hR:=V1 P hBr0 hnd
     have W:=Ko hR
     have hbl:=Vy W
     have hd64:=W.d64
     have hN17:=W.N17
     have hN1:=W.N1
     have hlen:=W.len
     have hde:=W.de
     obtain ⟨hL,hroom,hop,hlK,hBr,P'⟩:=ZB P hBr0
     have hlK2:=Gm r r.ids.length
     have hDues:Ks r=(CB r,CQ r r.ids.length,0):=by unfold Ks; rw [if_pos hR]
     have hWo:HX r=(Ei r woF r.ids.length,0):=by unfold HX; rw [if_pos hR]
     have hwS:=V3 P'
     have hgr:V4 (CF r)=r:=by unfold V4; rw [if_pos (JD hR hU),Na W hU]
     have hgc:gotC (CF r)=0:=by unfold gotC; rw [if_pos (JD hR hU)]
     have hpS:Yp r=CF r:=if_pos hR
     have hpC:putC r=0:=if_pos hR
     have hbl2:(CF r).length≤100000:=by
      rw [hbl]
      unfold GC
      cases r.cmp <;> simp <;> omega
     refine Bh (Aj (Aj (AB (Aa (Af (Cx _ rfl C6 Cp rfl rfl ((C8 (l:=AJ r q) (H.get at0) 0 (AJ r q) rfl)) ?_))))))
     refine Al rfl Wx (P9 r q _ (hRA H.ext) hEc hB hU) rfl ?_
     rintro v w ⟨hT9,hF9⟩
     obtain ⟨aA,cA,rfl,RX,hx88,hcA⟩:=ZE hT9 hF9
     rw [hpS] at RX hcA ⊢
     rw [hpC]
     replace H:=H.call hx88
     refine BK rfl rfl (A5 (v := .slice aA (CF r).length cA) rfl rfl rfl (A5 (v := .int .i64 0) rfl rfl rfl (A6 rfl rfl (Ae rfl rfl (Ab (Aa (Af (Ak rfl rfl (Al rfl ZL (Uh aA cA (CF r) _ RX hcA hbl2 (fun hl=>RX.lt' (fun _ _=>rfl) (by decide) hl)) rfl ?_)))))))))
     rintro v w ⟨hg1,hg2⟩
     have hG:=Yj hg1 hg2
     obtain ⟨q2,rfl,R2,hE2'⟩:=Yo hG
     have hE2:=hE2' (JD hR hU)
     rw [hgr] at R2 hE2 ⊢
     rw [hgc]
     replace H:=H.call hG.ext
     have hb9:=H.get at0
     have hx1:=hx0.trans H.ext
     have RAo:=hRA H.ext
     obtain ⟨w2,rfl⟩:∃ z,z=w:=⟨_,rfl⟩
     replace H:=Ctx.start w2 []
     refine BK rfl rfl (A5 (v := .agg (AJ r q2).toArray) rfl rfl rfl (A5 (v := .int .i64 0) rfl rfl rfl (Bo rfl Hi H ?_)))
     rintro b15 w - H
     refine BP rfl Cp rfl rfl rfl (by exact (by simp [Bu])) H at0 rfl ?_
     rintro w H
     refine Ae rfl rfl (Ab (Aa ?_))
     have hRA2:∀ {z:World},Ext [] w2 z→RAt z r q:=fun h=>RAo.ext0 h
     have hRB:∀ {z:World},Ext [] w2 z→RAt z r q2:=fun h=>R2.ext0 h
     have hk9:∀ {z:World},Ext [] w2 z→∀ j v,(AJ r q)[j]? = some v→z.cell? ⟨b9,0+j,none⟩=some v:=fun h=>C8 (l:=AJ r q) (h.to hb9 (by simp)) 0 (AJ r q) rfl
     refine Af (Cx _ rfl C6 Cp rfl rfl ((C8 (l:=AJ r q2) (H.get at0) 0 (AJ r q2) rfl)) ?_)
     refine Al rfl ca_37 (XO r q2 _ (hRB H.ext) hE2 hB) rfl ?_
     rintro v w ⟨vR,vD,rfl,hvR,hvD,hx98⟩
     rw [hDues] at hvR hvD ⊢
     obtain ⟨aO,cO,rfl,-,RO,-⟩:=hvR
     obtain ⟨aD,cD,rfl,-,RD,-⟩:=hvD
     dsimp only at RO RD ⊢
     replace H:=H.call hx98
     refine BK rfl rfl (A5 (v := .slice aO (CB r).length cO) rfl rfl rfl (A5 (v := .slice aD (CQ r r.ids.length).length cD) rfl rfl rfl (A5 (v := .int .i64 0) rfl rfl rfl (A6 rfl rfl (A6 rfl rfl (Ae rfl rfl (Ab (Aa ?_))))))))
     have hb15:=H.get at0
     have hx2:=hx1.trans H.ext
     have hxw2:=H.ext
     obtain ⟨w3,rfl⟩:∃ z,z=w:=⟨_,rfl⟩
     clear H
     have H:=Ctx.start w3 []
     have hRO:∀ {z:World},Ext [] w3 z→Rd z aO 1 I1 (CB r):=fun h=>RO.ext0 h
     have hRD:∀ {z:World},Ext [] w3 z→Rd z aD 7 CP (CQ r r.ids.length):=fun h=>RD.ext0 h
     have hk15:∀ {z:World},Ext [] w3 z→z.heap[b15]? = some (Bl 33 (AJ r q2)):=fun h=>h.to hb15 (by simp)
     have hRB3:∀ {z:World},Ext [] w3 z→RAt z r q2:=fun h=>hRB (hxw2.trans h)
     have hRx:∀ {z:World},Ext [] w3 z→Rd z p 1 I1 xs:=fun h=>Rp.ext0 (hx2.trans h)
     have hRr:∀ {z:World},Ext [] w3 z→Rd z a 1 I1 rs:=fun h=>R.ext0 (hx2.trans h)
     have hRd0:∀ {z:World},Ext [] w3 z→Rd z b 7 CP ds:=fun h=>Rd'.ext0 (hx2.trans h)
     have hmayD:∀ d∈opn (CQ r r.ids.length),EG d=true:=fun d hd=>(hBr.open'.due d hd).1
     have htotD:=hBr.open'.tot
     have hwb:=Ib (os:=opn (CQ r r.ids.length)) (xs:=r.fl.take (opn (CQ r r.ids.length)).length) (Hu P' hBr).1.pay (fun d hd=>by have:=DM (hmayD d hd); omega) _ (Nat.le_refl _)
     rw [Nf _ (Nat.le_refl _),← hwS] at hwb
     have hol:(opn (CQ r r.ids.length)).length=r.ids.length:=by rw [hop,hlK2]
     refine Af (Cx _ rfl C6 Cp rfl rfl ((C8 (l:=AJ r q2) (hk15 H.ext) 0 (AJ r q2) rfl)) ?_)
     refine Al rfl ZM (Oh r q2 _ (hRB3 H.ext) hE2 hB) rfl ?_
     rintro v w ⟨rfl,hx104⟩
     rw [hWo]
     replace H:=H.call hx104
     refine BK rfl rfl (A5 (v := .int .i64 (Ei r woF r.ids.length)) rfl rfl rfl (A5 (v := .int .i64 0) rfl rfl rfl (Ae rfl rfl (Ae rfl rfl (Ab (Aa (Aq (Af (Ct (α:=Unit) 1361129305424477024640135038149062557696 (fun _=>[(129,.bool (false))]) (fun _ w'=>Ctx w3 [] w' []) rfl ?_ ?_)))))))))
     ·refine Cx _ rfl C6 Cp rfl rfl ((hk9 (hxw2.trans H.ext))) ?_
      refine Al rfl Lj (Fc r q _ (hRA2 (hxw2.trans H.ext)) hEc hB) rfl ?_
      rintro v w ⟨rfl,hx108⟩
      rw [hR]
      replace H:=H.call hx108
      refine Bv rfl rfl (Ay rfl rfl (AH 110 rfl ?_ ?_))
      ·intro h5
       replace h5:=B0 h5
       refine Ag rfl (Ag rfl (A3 rfl rfl (.bool _) rfl (Ay rfl rfl (Ag rfl (Ag rfl (A3 rfl rfl (.bool _) rfl (Ay rfl rfl (Ag rfl (Ag rfl ?_)))))))))
       refine A3 rfl rfl (.bool _) rfl (Ay rfl rfl (Ag rfl (Ag rfl (A3 rfl rfl (.bool _) rfl (Ay rfl rfl (Ag rfl (Ag rfl (A3 rfl rfl (.bool _) rfl (Ab ?_)))))))))
       exact ⟨rfl,(),rfl,⟨congrArg Value.bool (by (simp_all; done)),trivial⟩,H⟩
      ·intro h6
       replace h6:=B1 h6
       refine Ad rfl rfl (CY rfl rfl rfl (AA rfl rfl (.bool _) rfl (Ay rfl rfl (AH 114 rfl ?_ ?_))))
       ·intro h7
        replace h7:=Dz h7
        refine Ag rfl (Ag rfl (A3 rfl rfl (.bool _) rfl (Ay rfl rfl (Ag rfl (Ag rfl (A3 rfl rfl (.bool _) rfl (Ay rfl rfl (Ag rfl (Ag rfl ?_)))))))))
        refine A3 rfl rfl (.bool _) rfl (Ay rfl rfl (Ag rfl (Ag rfl (A3 rfl rfl (.bool _) rfl (Ab ?_)))))
        exact ⟨rfl,(),rfl,⟨congrArg Value.bool (by (simp; omega)),trivial⟩,H⟩
       ·intro h8
        replace h8:=D0 h8
        refine Ad rfl rfl (CY rfl rfl rfl (AA rfl rfl (.bool _) rfl (Ay rfl rfl (AH 118 rfl ?_ ?_))))
        ·intro h9
         replace h9:=Dz h9
         refine Ag rfl (Ag rfl (A3 rfl rfl (.bool _) rfl (Ay rfl rfl (Ag rfl (Ag rfl (A3 rfl rfl (.bool _) rfl (Ay rfl rfl (Ag rfl (Ag rfl ?_)))))))))
         refine A3 rfl rfl (.bool _) rfl (Ab ?_)
         exact ⟨rfl,(),rfl,⟨congrArg Value.bool (by (simp; omega)),trivial⟩,H⟩
        ·intro h10
         replace h10:=D0 h10
         refine Ad rfl rfl (CY rfl rfl rfl (AA rfl rfl (.bool _) rfl (Ay rfl rfl (AH 122 rfl ?_ ?_))))
         ·intro h11
          replace h11:=Dz h11
          refine Ag rfl (Ag rfl (A3 rfl rfl (.bool _) rfl (Ay rfl rfl (Ag rfl (Ag rfl (A3 rfl rfl (.bool _) rfl (Ab ?_)))))))
          exact ⟨rfl,(),rfl,⟨congrArg Value.bool (by (simp; omega)),trivial⟩,H⟩
         ·intro h12
          replace h12:=D0 h12
          refine Ad rfl rfl (CY rfl rfl rfl (AA rfl rfl (.bool _) rfl (Ay rfl rfl (AH 126 rfl ?_ ?_))))
          ·intro h13
           replace h13:=Dz h13
           refine Ag rfl (Ag rfl (A3 rfl rfl (.bool _) rfl (Ab ?_)))
           exact ⟨rfl,(),rfl,⟨congrArg Value.bool (by (simp; omega)),trivial⟩,H⟩
          ·intro h14
           replace h14:=D0 h14
           refine Ad rfl rfl (AV rfl rfl rfl (AA rfl rfl (.bool _) rfl (Ab ?_)))
           exact ⟨rfl,(),rfl,⟨congrArg Value.bool (by (simp; omega)),trivial⟩,H⟩
     rintro - j129 w H
     refine EJ rfl (Aw (Aa (Aq (Dl 5573825170164972031530076069732363303649280 (α:=Unit) (fun _=>[(141,.bool false)]) (fun _ w'=>Ctx w3 [] w' []) rfl ?_ ?_))))
     ·skip
      by_cases hP:PermP (CB r) (CQ r r.ids.length) net xs
      ·skip
       refine Ap (Ak rfl rfl (Ak rfl rfl (Ay rfl rfl (Ak rfl rfl (Al rfl W1 (KW aO aD p _ cO _ cD _ f (CB r) (CQ r r.ids.length) net xs _ (hRO H.ext) rfl (by omega) (hRD H.ext) rfl (by omega) (hRx H.ext) rfl (by omega)) rfl ?_)))))
       rintro v w ⟨⟨z,rfl,hz⟩,hx134⟩
       replace H:=H.call hx134
       obtain rfl:z=true:=hz.2 hP
       refine Ay rfl rfl (Ak rfl rfl (Ak rfl rfl (Al rfl ZN (Ro aD p _ cD _ f (CQ r r.ids.length) xs _ (hRD H.ext) rfl (by omega) (hRx H.ext) rfl hP.pay hmayD htotD) rfl ?_)))
       rintro v w ⟨rfl,hx138⟩
       replace H:=H.call hx138
       refine Ad rfl rfl (C4 rfl rfl rfl (A3 rfl rfl (.bool _) rfl (Ab (Aa ?_))))
       have hbest:=Yl P' hP
       rw [← hwS] at hbest
       exact ⟨(),rfl,⟨congrArg Value.bool (decide_eq_false (by omega)),trivial⟩,H⟩
      ·skip
       refine Ap (Ak rfl rfl (Ak rfl rfl (Ay rfl rfl (Ak rfl rfl (Al rfl W1 (KW aO aD p _ cO _ cD _ f (CB r) (CQ r r.ids.length) net xs _ (hRO H.ext) rfl (by omega) (hRD H.ext) rfl (by omega) (hRx H.ext) rfl (by omega)) rfl ?_)))))
       rintro v w ⟨⟨z,rfl,hz⟩,hx134⟩
       replace H:=H.call hx134
       obtain rfl:z=false:=by cases z; rfl; exact absurd (hz.1 rfl) hP
       refine Ay rfl rfl (Ag rfl (Ag rfl (Ag rfl (Ag rfl (Ag rfl (AA rfl rfl (.bool _) rfl (Ab (Aa ?_))))))))
       exact ⟨(),rfl,⟨rfl,trivial⟩,H⟩
     ·rintro - j20 w H
      refine Ax _ rfl ?_ ?_
      ·intro h3
       exact absurd h3 (by decide)
      ·intro h3
       refine Aw (Aa (Af (A6 rfl rfl (Ab (Aa (Aq (Af (Ae rfl rfl (Ab (Aa (Av (Bm 47890485646483840524065688813063232419923507321766144 (α:=BsS) (fun t=>[(22,.slice t.a t.i t.c),(23,.int .i64 (t.i:Int))]) (fun t w'=>t.i≤r.ids.length∧OS t.a t.i t.c 1 t.full ((r.fl.take t.i).flatMap I1)∧Ctx w3 [] w' (ent t.a 2 t.full)) (fun t=>r.ids.length - t.i) ⟨0,none,0,[]⟩ rfl ?_ ?_ ?_))))))))))))
       ·exact ⟨rfl,rfl,trivial⟩
       ·exact ⟨Nat.zero_le _,OS.nil,H⟩
       ·clear H
        rintro ⟨i,a4,c4,f4⟩ j4 w ⟨hi,O,H⟩; dsimp only at hi O H; dsimp only
        refine Aq (Af (Ad rfl rfl (Ah rfl EK rfl (AY rfl Fy rfl ((by rw [An (hk15 H.ext)]; rfl)) ?_))))
        refine Be rfl Bd rfl (AV rfl rfl rfl (Ab (Aa (Ax _ rfl ?_ ?_))))
        ·intro h4
         replace h4:=AE h4
         obtain ⟨id,hid⟩:=A4 (l:=r.ids) (i:=i) (by omega)
         obtain ⟨x,hxv⟩:=A4 (l:=r.fl) (i:=i) (by omega)
         obtain ⟨ee,hee⟩:=A4 (l:=r.es) (i:=i) (by omega)
         have hpaid:=ZI hR hid hxv hee
         have hwi:=(BA W.wi).2.2 i ee x hee hxv
         refine Aw (Aa (Aq (Av (CH [([0,1,2,3,4,5],6),([7,8,9,10,11,12],13)] (fun z=>Ext [] w3 z) [] Bz (by kernel_rfl) (H.drew.ext) ?_))))
         refine AO rfl rfl ?_
         refine Fx _ rfl C6 Cp rfl rfl (fun _ hx=>(C8 (l:=AJ r q2) (hk15 hx) 0 (AJ r q2) rfl)) ?_
         refine AL rfl EK rfl (BQ rfl Fy rfl (fun _ hx=>(by rw [An (hk15 hx)]; rfl)) ?_)
         refine AN rfl rfl (CE (hRB3 H.ext).I rfl Bd AZ rfl rfl (by omega) (by omega) (by rfl) ?_)
         refine BQ rfl BD rfl (fun _ hx=>((hRB3 hx).I.one (f:=EP) hid)) ?_
         refine Bx ?_
         replace H:=H.drew
         refine Al rfl Wz (MQ r q2 id _ (hRB3 H.ext) hE2 hB) rfl ?_
         rintro v w ⟨rfl,hx156⟩
         rw [hpaid]
         replace H:=H.call hx156
         refine Ab (C2 (H.ext) (AO rfl rfl ?_))
         refine OM rfl rfl (E5 (v := .int .i64 x) rfl rfl rfl (E5 (v := .int .i64 ee.cap) rfl rfl rfl (E5 (v := .int .i64 0) rfl rfl rfl (IV rfl rfl (IV rfl rfl (Bx (Ae rfl rfl (Ab (C2 (H.ext) (BL ?_))))))))))
         refine Aq (Af (Ct (α:=Unit) 2991693851616358273562942852570231341235693915471872 (fun _=>[(170,.bool (false))]) (fun _ w'=>Ctx w3 [] w' (ent a4 2 f4)) rfl ?_ ?_))
         ·refine Ad rfl rfl (CY rfl rfl rfl (Ay rfl rfl (AH 162 rfl ?_ ?_)))
          ·intro h15
           replace h15:=Dz h15
           refine Ag rfl (Ag rfl (A3 rfl rfl (.bool _) rfl (Ay rfl rfl (Ag rfl (Ag rfl (Ag rfl (A3 rfl rfl (.bool _) rfl (Ab ?_))))))))
           exact ⟨rfl,(),rfl,⟨congrArg Value.bool (by (simp; omega)),trivial⟩,H⟩
          ·intro h16
           replace h16:=D0 h16
           refine Ad rfl rfl (AV rfl rfl rfl (AA rfl rfl (.bool _) rfl (Ay rfl rfl (AH 166 rfl ?_ ?_))))
           ·intro h17
            replace h17:=AE h17
            refine Ag rfl (Ag rfl (Ag rfl (A3 rfl rfl (.bool _) rfl (Ab ?_))))
            exact ⟨rfl,(),rfl,⟨congrArg Value.bool (by (simp; omega)),trivial⟩,H⟩
           ·intro h18
            replace h18:=AF h18
            refine Ad rfl rfl (Ad rfl rfl (C4 rfl rfl rfl (AA rfl rfl (.bool _) rfl (Ab ?_))))
            exact ⟨rfl,(),rfl,⟨congrArg Value.bool (by (simp; omega)),trivial⟩,H⟩
         rintro - j170 w H
         refine EJ rfl (Aw (Aa (Ap (Ak rfl rfl (Ad rfl rfl (Db _ (.int _ _) rfl AX Bw FX rfl (by decide) (by decide) rfl rfl rfl H ?_))))))
         rintro b173 w - H
         refine Dc (L:=[]) rfl AX AX Bw Mu FX rfl (by decide) rfl rfl H O rfl (by simp [Bu]) (by omega) ?_
         rintro a5 c5 f5 w H O
         refine A6 rfl rfl (Ab (A2 (Aa (Ap (Ad rfl rfl (Ao rfl rfl rfl (by omega) (by omega) ?_))))))
         refine Ae rfl rfl (Ab (Aa ?_))
         refine ⟨⟨i+1,a5,c5,f5⟩,rfl,⟨rfl,rfl,trivial⟩,⟨by dsimp only; omega,?_,H⟩,by dsimp only; omega⟩
         dsimp only
         rw [Cv hxv,List.flatMap_append,List.flatMap_singleton]
         exact O
        ·intro h4
         replace h4:=AF h4
         obtain rfl:i=r.ids.length:=by omega
         have Rall:Rd w a4 1 I1 (r.fl.take r.ids.length):=OS.rd O (fun y hy=>H.blk y hy) (fun _ _=>rfl) (by decide)
         have hla:(r.fl.take r.ids.length).length=r.ids.length:=by rw [List.length_take]; omega
         have hPa:=(Hu P' hBr).1
         rw [hol] at hPa
         have hwa:Fv (opn (CQ r r.ids.length)) (r.fl.take r.ids.length) (opn (CQ r r.ids.length)).length=Ei r woF r.ids.length:=by
          rw [hwS,← Nf (os:=opn (CQ r r.ids.length)) (fl:=r.fl) _ (Nat.le_refl _),hol]
         have hx4:=H.ext
         obtain ⟨w4,rfl⟩:∃ z,z=w:=⟨_,rfl⟩
         clear H
         have H:=Ctx.start w4 []
         refine Bh (Aj (Aj (AB (Aa (Aq (Af (Ct (α:=Unit) 100433579875701240162345807072978064210475699025826983968768 (fun _=>[(195,.bool (false))]) (fun _ w'=>Ctx w4 [] w' []) rfl ?_ ?_)))))))
         ·refine Ak rfl rfl (Ak rfl rfl (Ay rfl rfl (Ak rfl rfl (Al rfl W1 (KW aO aD a4 _ cO _ cD _ c4 (CB r) (CQ r r.ids.length) net (r.fl.take r.ids.length) _ (hRO (hx4.trans H.ext)) rfl (by omega) (hRD (hx4.trans H.ext)) rfl (by omega) (Rall.ext0 H.ext) hla (by omega)) rfl ?_))))
          rintro v w ⟨⟨z,rfl,hz⟩,hx179⟩
          replace H:=H.call hx179
          obtain rfl:z=true:=hz.2 hPa
          refine Bv rfl rfl (Ay rfl rfl (AH 181 rfl ?_ ?_))
          ·intro h19
           replace h19:=B0 h19
           refine Ag rfl (Ag rfl (Ag rfl (Ag rfl (Ag rfl (A3 rfl rfl (.bool _) rfl (Ay rfl rfl (Ag rfl (Ag rfl (Ag rfl ?_)))))))))
           refine Ag rfl (Ag rfl (Ag rfl (A3 rfl rfl (.bool _) rfl (Ab ?_))))
           exact ⟨rfl,(),rfl,⟨congrArg Value.bool (by (simp_all; done)),trivial⟩,H⟩
          ·intro h20
           replace h20:=B1 h20
           refine Ak rfl rfl (Ak rfl rfl (Al rfl ZN (Ro aD a4 _ cD _ c4 (CQ r r.ids.length) (r.fl.take r.ids.length) _ (hRD (hx4.trans H.ext)) rfl (by omega) (Rall.ext0 H.ext) hla hPa.pay hmayD htotD) rfl ?_))
           rintro v w ⟨rfl,hx184⟩
           rw [hwa]
           replace H:=H.call hx184
           refine Ad rfl rfl (CY rfl rfl rfl (AA rfl rfl (.bool _) rfl (Ay rfl rfl (AH 188 rfl ?_ ?_))))
           ·intro h21
            replace h21:=Dz h21
            refine Ag rfl (Ag rfl (Ag rfl (Ag rfl (Ag rfl (Ag rfl (A3 rfl rfl (.bool _) rfl (Ab ?_)))))))
            exact ⟨rfl,(),rfl,⟨congrArg Value.bool (by (simp; omega)),trivial⟩,H⟩
           ·intro h22
            replace h22:=D0 h22
            refine Ak rfl rfl (Al rfl ca_49 (SG b _ e ds _ (hRd0 (hx4.trans H.ext)) rfl (by omega)) rfl ?_)
            rintro v w F
            obtain ⟨a7,n7,c7,f7,rfl,O7,-⟩:=F.ex
            have hn7:=O7.numN (fun _ _=>rfl) (by decide)
            subst hn7
            replace H:=H.call F.ext
            refine Be rfl CC rfl (Ak rfl rfl (Be rfl CC rfl (CY rfl rfl rfl (AA rfl rfl (.bool _) rfl (Ab ?_)))))
            exact ⟨rfl,(),rfl,⟨congrArg Value.bool (by (simp; omega)),trivial⟩,H⟩
         rintro - j195 w H
         refine EJ rfl (Aw (Aa (Af (Ae rfl rfl (Ab (Aa (Aq (Af (Ae rfl rfl (Ab (Aa (Av ?_))))))))))))
         refine Bm 56539106072908198113037753836881171133848713377357149022204287025267343616 (α:=Nat) (fun i=>[(27,.int .i64 (Bn (byK (CB r) (opn (CQ r r.ids.length)) net r.fl) i)),(28,.int .i64 (i:Int))]) (fun i w'=>i≤(CB r).length∧Ctx w4 [] w' []) (fun i=>(CB r).length - i) 0 rfl ?_ ?_ ?_
         ·exact ⟨rfl,rfl,trivial⟩
         ·exact ⟨Nat.zero_le _,H⟩
         ·clear H
          rintro i j6 w ⟨hi,H⟩
          refine Aq (Af (Ad rfl rfl (Ak rfl rfl (Be rfl AX rfl (AV rfl rfl rfl (Ab (Aa (Ax _ rfl ?_ ?_))))))))
          ·intro h5
           replace h5:=AE h5
           obtain ⟨x,hxv⟩:=A4 (l:=rs) (i:=i) (by omega)
           have hroomi:=hroom i x hxv
           have hby:=ZC P' hBr i
           have hxm:=Ey.1 (hBr0.may x (List.mem_of_getElem? hxv))
           obtain ⟨hb1,hb2,hb3⟩:=(Hu P' hBr).2.2 i _ hroomi
           have hwB:Jr r (i:Int)=(Ei r (toF i) r.ids.length,Ei r (frF i) r.ids.length,0):=by
            unfold Jr
            rw [if_pos hR,if_pos (by have:=P.N; omega)]
           obtain ⟨G,hGt⟩:∃ G,G=Ei r (toF i) r.ids.length:=⟨_,rfl⟩
           obtain ⟨F',hFt⟩:∃ F',F'=Ei r (frF i) r.ids.length:=⟨_,rfl⟩
           obtain ⟨bk,hbk⟩:∃ bk,bk=byK (CB r) (opn (CQ r r.ids.length)) net r.fl i:=⟨_,rfl⟩
           have hGb:=IC W (XB i) r.ids.length (Nat.le_refl _)
           have hFb:=IC W (XC i) r.ids.length (Nat.le_refl _)
           rw [← hGt] at hGb
           rw [← hFt] at hFb
           rw [← hGt,← hFt] at hby hwB
           rw [← hbk] at hby hb1 hb2 hb3
           have hmO:∀ x∈CB r,x≤4503599627370496:=fun x hx=>(Ey.1 (hBr.may x hx)).2
           have hsm:=Uo (k:=i) (Hu P' hBr).2.2 (by omega) hmO
           have hsm1:=Uo (k:=i+1) (Hu P' hBr).2.2 (by omega) hmO
           have hsum1:Bn (byK (CB r) (opn (CQ r r.ids.length)) net r.fl) (i+1)=Bn (byK (CB r) (opn (CQ r r.ids.length)) net r.fl) i+bk:=by rw [hbk]; rfl
           obtain ⟨S',hS'⟩:∃ S',S'=Bn (byK (CB r) (opn (CQ r r.ids.length)) net r.fl) i:=⟨_,rfl⟩
           rw [← hS'] at hsm hsum1 ⊢
           refine Aw (Aa (Aq (Av (Af (Cx _ rfl C6 Cp rfl rfl ((C8 (l:=AJ r q2) (hk15 (hx4.trans H.ext)) 0 (AJ r q2) rfl)) ?_)))))
           refine Ad rfl rfl (Al rfl W0 (MS r q2 (i:Int) _ (hRB3 (hx4.trans H.ext)) hE2 hB) rfl ?_)
           rintro v w ⟨rfl,hx205⟩
           rw [hwB]
           replace H:=H.call hx205
           refine BK rfl rfl (A5 (v := .int .i64 G) rfl rfl rfl (A5 (v := .int .i64 F') rfl rfl rfl (A5 (v := .int .i64 0) rfl rfl rfl (Ae rfl rfl (Ae rfl rfl (Ae rfl rfl (Ab (Aa (Af (Ae rfl rfl ?_))))))))))
           refine Ab (Aa (Aq (Af (Ay rfl rfl (Bv rfl rfl (Ab (Aa (Ea 49365136719636181264649075476720515149482075969007395904753238016 (α:=Unit) (fun _=>[(32,.int .i64 (if net=true then 0 else x))]) (fun _ w'=>Ctx w4 [] w' []) rfl ?_ ?_))))))))
           ·skip
            refine Ax _ rfl ?_ ?_
            ·intro h6
             replace h6:=B0 h6
             have h6':¬ net=true:=by simpa using h6
             rw [if_neg h6']
             refine Ap (Ak rfl rfl (Ad rfl rfl (Ba (hRr (hx4.trans H.ext)) rfl AX Bw rfl rfl (by omega) (by omega) (by rfl) ?_)))
             refine AY rfl B9 rfl (((hRr (hx4.trans H.ext)).one (f:=J9) hxv)) ?_
             refine Ae rfl rfl (Ab (Aa ?_))
             exact ⟨(),rfl,⟨rfl,trivial⟩,H⟩
            ·intro h6
             replace h6:=B1 h6
             have h6':net=true:=by simpa using h6
             rw [if_pos h6']
             refine Aw (Aa ?_)
             exact ⟨(),rfl,⟨rfl,trivial⟩,H⟩
           ·rintro - j7 w H
            obtain ⟨rm,hrm⟩:∃ rm,rm=(if net=true then 0 else x):=⟨_,rfl⟩
            rw [← hrm] at hroomi hb2 ⊢
            have hrmb:0≤rm∧rm≤4503599627370496:=by rw [hrm]; split <;> omega
            refine Aq (Af (Ct (α:=Unit) 1766847012122238495304704151783904673992267737428071257847050574137131008 (fun _=>[(239,.bool (false))]) (fun _ w'=>Ctx w4 [] w' []) rfl ?_ ?_))
            ·refine Ad rfl rfl (CY rfl rfl rfl (Ay rfl rfl (AH 217 rfl ?_ ?_)))
             ·intro h23
              replace h23:=Dz h23
              refine Ag rfl (Ag rfl (Ag rfl (Ag rfl (Ag rfl (Ag rfl (A3 rfl rfl (.bool _) rfl (Ay rfl rfl (Ag rfl (Ag rfl ?_)))))))))
              refine Ag rfl (Ag rfl (Ag rfl (A3 rfl rfl (.bool _) rfl (Ay rfl rfl (Ag rfl (Ag rfl (Ag rfl (Ag rfl (Ag rfl ?_)))))))))
              refine Ag rfl (A3 rfl rfl (.bool _) rfl (Ab ?_))
              exact ⟨rfl,(),rfl,⟨congrArg Value.bool (by (simp; omega)),trivial⟩,H⟩
             ·intro h24
              replace h24:=D0 h24
              refine Ak rfl rfl (Ad rfl rfl (Ba (hRO (hx4.trans H.ext)) rfl AX Bw rfl rfl (by omega) (by omega) (by rfl) ?_))
              refine AY rfl B9 rfl (((hRO (hx4.trans H.ext)).one (f:=J9) hroomi)) ?_
              refine Ad rfl rfl (CY rfl rfl rfl (AA rfl rfl (.bool _) rfl (Ay rfl rfl (AH 225 rfl ?_ ?_))))
              ·intro h25
               replace h25:=Dz h25
               refine Ag rfl (Ag rfl (Ag rfl (Ag rfl (Ag rfl (A3 rfl rfl (.bool _) rfl (Ay rfl rfl (Ag rfl (Ag rfl (Ag rfl ?_)))))))))
               refine Ag rfl (Ag rfl (Ag rfl (A3 rfl rfl (.bool _) rfl (Ab ?_))))
               exact ⟨rfl,(),rfl,⟨congrArg Value.bool (by (simp; omega)),trivial⟩,H⟩
              ·intro h26
               replace h26:=D0 h26
               refine Ad rfl rfl (Ad rfl rfl (Bc rfl rfl rfl (by omega) (by omega) ?_))
               refine Ad rfl rfl (C4 rfl rfl rfl (AA rfl rfl (.bool _) rfl (Ay rfl rfl (AH 232 rfl ?_ ?_))))
               ·intro h27
                replace h27:=AE h27
                refine Ag rfl (Ag rfl (Ag rfl (Ag rfl (Ag rfl (Ag rfl (A3 rfl rfl (.bool _) rfl (Ab ?_)))))))
                exact ⟨rfl,(),rfl,⟨congrArg Value.bool (by (simp; omega)),trivial⟩,H⟩
               ·intro h28
                replace h28:=AF h28
                refine Ay rfl rfl (Ay rfl rfl (AH 234 rfl ?_ ?_))
                ·intro h29
                 refine Ad rfl rfl (Ad rfl rfl (CY rfl rfl rfl (A3 rfl rfl (.bool _) rfl (AA rfl rfl (.bool _) rfl (Ab ?_)))))
                 exact ⟨rfl,(),rfl,⟨congrArg Value.bool (by (simp_all; omega)),trivial⟩,H⟩
                ·intro h30
                 refine Ag rfl (Ag rfl (Ag rfl (AA rfl rfl (.bool _) rfl (AA rfl rfl (.bool _) rfl (Ab ?_)))))
                 exact ⟨rfl,(),rfl,⟨congrArg Value.bool (by rfl),trivial⟩,H⟩
            rintro - j239 w H
            refine EJ rfl (Aw (Aa (Ap (Ad rfl rfl (Ad rfl rfl (Ad rfl rfl (Bc rfl rfl rfl (by omega) (by omega) ?_)))))))
            refine Ao rfl rfl rfl (by omega) (by omega) ?_
            refine Ae rfl rfl (Ab (A2 (Aa (Ap (Ad rfl rfl (Ao rfl rfl rfl (by omega) (by omega) ?_))))))
            refine Ae rfl rfl (Ab (Aa ?_))
            exact ⟨i+1,rfl,⟨congrArg (Value.int .i64) (by rw [hsum1]; omega),rfl,trivial⟩,⟨by omega,H⟩,by omega⟩
          ·intro h5
           replace h5:=AF h5
           obtain rfl:i=(CB r).length:=by omega
           have hsz:=(Hu P' hBr).2.1
           rw [hsz]
           refine Bh (Aj (Aj (AB (Aa (Af (Ct (α:=Unit) 231527639368559482548595304497352042314033489846581108272255276617384895447296 (fun _=>[(8,.bool (true))]) (fun _ w'=>Ctx w4 [] w' []) rfl ?_ ?_))))))
           ·refine Ad rfl rfl (Cg rfl rfl rfl (Ay rfl rfl (AH 247 rfl ?_ ?_)))
            ·intro h31
             replace h31:=AE h31
             refine Ak rfl rfl (Be rfl AX rfl (Ak rfl rfl (Be rfl AX rfl (Cg rfl rfl rfl (A3 rfl rfl (.bool _) rfl (Ay rfl rfl (AH 254 rfl ?_ ?_)))))))
             ·intro h32
              replace h32:=AE h32
              refine Al rfl T3 (Ia _) rfl ?_
              rintro v w ⟨rfl,hx255⟩
              replace H:=H.call hx255
              refine A3 rfl rfl (.bool _) rfl (Ai rfl rfl (Ab ?_))
              exact ⟨rfl,(),rfl,⟨congrArg Value.bool (by rfl),trivial⟩,H⟩
             ·intro h33
              replace h33:=AF h33
              refine Ag rfl (AA rfl rfl (.bool _) rfl (Ai rfl rfl (Ab ?_)))
              exact ⟨rfl,(),rfl,⟨congrArg Value.bool (by (simp_all; done)),trivial⟩,H⟩
            ·intro h34
             replace h34:=AF h34
             refine Ag rfl (Ag rfl (Ag rfl (Ag rfl (Ag rfl (AA rfl rfl (.bool _) rfl (Ay rfl rfl (Ag rfl (AA rfl rfl (.bool _) rfl (Ai rfl rfl ?_)))))))))
             refine Ab ?_
             exact ⟨rfl,(),rfl,⟨congrArg Value.bool (by (simp_all; done)),trivial⟩,H⟩
           rintro - j8 w H
           refine A9 (AC (v:=(.bool _)) rfl rfl rfl ?_)
           exact ⟨rfl,hx2.trans (hx4.trans H.ext)⟩
end Go.Proofs.YtapphbmlkdhnmaaGreat

/- WitnessBest: for every input the law answers true, and turns nothing. -/
namespace Go.Proofs.YtapphbmlkdhnmaaGreat
open Go.GV Go.ChangeShapes Go.WideShapes Go.RowKit

set_option maxRecDepth 100000 in
theorem JE (os:Os) (started:os.Started) (H:Type) (enc:TypeId × Value→H) :
  ReturnsInHanded {} Tryz.checked os 9 .any (Rows.witnessBestSpec.pre6 enc Tryz.prog Tryz.f9 Rows.witnessBestRow.domain false) (Rows.witnessBestSpec.post enc Tryz.prog Tryz.f9 false true false false):=by
 refine returnsInHanded_of_change (C:=Tryz.checked) own started (by kernel_rfl) Tryz.func9
  (ChangeSpec.witness6 (enc:=enc) (C:=Tryz.checked) false ⟨#[],#[.slice none 0 0,.slice none 0 0,.bool false,.slice none 0 0],[]⟩ 8 (by kernel_rfl) (by kernel_rfl) (by kernel_rfl) (by kernel_rfl)) ?_
 intro W base args ds gs before hval0 hW hcnd _
 have hval:∀ (j:Nat) t v,Tryz.f9.params[j]? = some t→args[j]? = some v→Value.okWide Tryz.prog W .any base t v:=hval0
 have hW':=hW
 obtain ⟨p,q,hA0,hV,rfl,hfz,hnd⟩:=hW
 have hA:DataW.TrodAll enc Tryz.prog W 0 (fun _=>true) true Tryz.f9.params.toList args.toList ds p:=hA0
 rw [Tryz.params9] at hA hval
 obtain ⟨v0,vs0,d0,ds0,p0,q0,hargs,rfl,rfl,h0,r0⟩:=trodAll_cons hA
 obtain ⟨v1,vs1,d1,ds1,p1,q1,rfl,rfl,rfl,h1,r1⟩:=trodAll_cons r0
 obtain ⟨v2,vs2,d2,ds2,p2,q2,rfl,rfl,rfl,h2,r2⟩:=trodAll_cons r1
 obtain ⟨v3,vs3,d3,ds3,p3,q3,rfl,rfl,rfl,h3,r3⟩:=trodAll_cons r2
 obtain ⟨rfl,rfl,rfl⟩:=trodAll_nil r3
 obtain rfl:args=#[v0,v1,v2,v3]:=by cases args; simp_all
 obtain ⟨a0,c0,l0,rfl,R0,H0⟩:=Un (hval 0 _ v0 rfl rfl) h0
 obtain ⟨a1,c1,l1,rfl,R1,H1⟩:=du_of (hval 1 _ v1 rfl rfl) h1
 obtain ⟨k2,rfl,rfl,rfl⟩:=open_bool Tryz.underlying4 (hval 2 _ v2 rfl rfl) h2
 obtain ⟨a3,c3,l3,rfl,R3,H3⟩:=Un (hval 3 _ v3 rfl rfl) h3
 refine (Tc a0 a1 a3 _ c0 _ c1 _ c3 l0 l1 k2 l3 W R0 rfl R1 rfl (fun d hd=>(H1 d hd).1) R3 rfl).calls.mono ?_
 rintro e W' ⟨v,rfl,rfl,hx⟩
 exact ⟨_,rfl,VV ZD rfl (by kernel_rfl) rfl Tryz.underlying4 (fun ds h=>match ds,h with | [_,_,_,_],_=>rfl) hW' hx⟩

theorem witnessBest_holds:Rows.WitnessBestSaid :=
 OpenClaim.holds_of_wide 9 Tryz.f9 rfl rfl rfl rfl rfl rfl rfl ⟨rfl,rfl,rfl,rfl,rfl⟩ rfl rfl rfl rfl rfl (by kernel_rfl) Tryz.func9 (by kernel_rfl)
  (of_decide_eq_true (by kernel_rfl)) (by unfold Func.isWrapper; rw [if_neg (of_decide_eq_false (by kernel_rfl))]; exact ⟨rfl,rfl⟩)
  (fun os started H enc _=>JE os started H enc)
#print axioms witnessBest_holds
end Go.Proofs.YtapphbmlkdhnmaaGreat
