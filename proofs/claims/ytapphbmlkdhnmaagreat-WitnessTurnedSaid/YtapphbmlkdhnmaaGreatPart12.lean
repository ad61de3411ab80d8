/- Part 12 of the proof. -/
import Derived.Test.YtapphbmlkdhnmaaGreatPart2
import Derived.Test.YtapphbmlkdhnmaaGreatPart11
import Derived.Test.YtapphbmlkdhnmaaGreatPart4
import Derived.Test.YtapphbmlkdhnmaaGreatPart3
/- Numbers as bytes; copies of bytes. -/
namespace Go.Proofs.YtapphbmlkdhnmaaGreat
open Go.GV
attribute [local irreducible] A4 W Wq

theorem Fresh.rdB {w w':World} {t:Nat} {s:Value} {xs:List UInt8} (h:Fresh w w' t 1 s (xs.map bv)):∃ a c,s = .slice a xs.length c∧Rd w' a 1 B8 xs∧xs.length≤c:=by
 obtain ⟨a,n,c,full,rfl,O,hb⟩:=h.ex
 have hn:=O.num
 subst hn
 exact ⟨a,c,rfl,O.rd1 (t:=t) fun x hx=>(hb x hx).1,O.le⟩
theorem Rd.appB {w:World} {a:Option Addr} {l:List UInt8} (R:Rd w a 1 B8 l):∀ j v,(l.map bv)[j]? = some v→∃ p,a=some p∧w.cell? (p.add j)=some v:=Rd.app1 (f:=bv) R
theorem OS.rdB {w:World} {a:Option Addr} {n c:Nat} {t:TypeId} {full:List Value} {xs:List UInt8} (h:OS a n c 1 full (xs.map bv)) (hb:∀ x∈ent a t full,w.heap[x.1]? = some x.2):Rd w a 1 B8 xs:=OS.rd1 h hb

theorem Fresh.since {w0 w w':World} {t s:Nat} {v:Value} {l:List Value} (h:Fresh w w' t s v l) (hx:Ext [] w0 w):Fresh w0 w' t s v l :=
 ⟨let ⟨a,n,c,full,h1,h2,h3⟩:=h.ex; ⟨a,n,c,full,h1,h2,fun x hx'=>⟨(h3 x hx').1,Nat.le_trans hx.size (h3 x hx').2⟩⟩,hx.trans h.ext⟩

theorem WK (a:Option Addr) (c n:Nat) (l:List UInt8) (w:World) (R:Rd w a 1 B8 l) (hn:l.length=n) (hm:n≤140737488351232) :
  Ret Tryz.prog 147 #[.slice a n c] w fun v w'=>Fresh w w' 5 1 v (l.map bv)∧(a=none→v = .slice none 0 0):=by
 subst hn
 obtain ⟨w0,rfl⟩:∃ w0,w0=w:=⟨_,rfl⟩
 have H:=Ctx.start w0 []
 refine A2 (fn:=Tryz.f147) Tryz.func147 rfl [.slice a l.length c] rfl (by kernel_rfl) ?_
 refine Af (AB rfl rfl (Ab (Aa (Au (Af (An rfl rfl (MX rfl Dt rfl (Ab (Aa (Ax _ rfl ?_ ?_))))))))))
 ·intro h1
  have ha:a=none:=by simpa using h1
  subst ha
  have hl:l=[]:=by
   cases l with
   | nil=>rfl
   | cons x l=>obtain ⟨b,o,h⟩:=R.some' (by simp); cases h
  subst hl
  refine Af (AB rfl rfl (Ab (Aa (A5 (Ak (A8 (v:=(.slice _ _ _)) rfl rfl rfl ?_))))))
  exact ⟨Fresh.nil H _ _,fun _=>rfl⟩
 ·intro h1
  refine Ay (Aa (Af (Fp rfl Dt Ij H ?_)))
  rintro b5 w H O
  refine An rfl rfl (D4 rfl Dt Dt Ij Vf MG rfl (by decide) (l.map bv) rfl rfl H O (by simp) (Zn l) (Rd.appB (R.ext0 H.ext)) (by omega) ?_)
  rintro a7 c7 full7 w H O
  refine AB rfl rfl (Ab (Aa (A5 (A8 (v:=(.slice _ _ _)) rfl rfl rfl ?_))))
  exact ⟨Ctx.fresh H (by simpa using O),fun h=>by subst h; cases h1⟩

/-! ### Sizes -/
def Hg (k:Int):Bool:=decide (k=1) || (decide (k=2) || (decide (k=4) || decide (k=8)))
theorem Q0 {k:Int} (h:Hg k=true):∃ n:Nat,k=n∧1≤n∧n≤8:=by
 simp only [Hg,Bool.or_eq_true,decide_eq_true_eq] at h
 exact ⟨k.toNat,by omega,by omega,by omega⟩
theorem Uy (k:Int):∃ z:Int,Option.getD (if k=8 then some (Value.int .i64 64) else if k=4 then some (Value.int .i64 32) else if k=2 then some (Value.int .i64 16) else if k=1 then some (Value.int .i64 8) else none) (Value.int .i64 0) = .int .i64 z∧decide (0<z)=Hg k:=by
 by_cases h8:k=8
 ·exact ⟨64,by simp [h8],by simp [Hg,h8]⟩
 by_cases h4:k=4
 ·exact ⟨32,by simp [h4],by simp [Hg,h4]⟩
 by_cases h2:k=2
 ·exact ⟨16,by simp [h2],by simp [Hg,h2]⟩
 by_cases h1:k=1
 ·exact ⟨8,by simp [h1],by simp [Hg,h1]⟩
 exact ⟨0,by simp [h8,h4,h2,h1],by simp [Hg,h8,h4,h2,h1]⟩
theorem NI (k:Int) (w:World):Ret Tryz.prog 148 #[.int .i64 k] w fun v w'=>v = .bool (Hg k)∧Ext [] w w':=by
 obtain ⟨w0,rfl⟩:∃ w0,w0=w:=⟨_,rfl⟩
 have H:=Ctx.start w0 []
 refine A2 (fn:=Tryz.f148) Tryz.func148 rfl [.int .i64 k] rfl (by kernel_rfl) ?_
 refine Af (Ai rfl rfl (Ab (Aa (Af (L7 .i64 rfl H ?_)))))
 rintro b4 o4 w hM H
 refine IB (.int _ _) rfl LW Gw rfl rfl rfl H at0 hM ?_
 rintro o w hM H
 refine IB (.int _ _) rfl LW Gw rfl rfl rfl H at0 hM ?_
 rintro o w hM H
 refine IB (.int _ _) rfl LW Gw rfl rfl rfl H at0 hM ?_
 rintro o w hM H
 refine IB (.int _ _) rfl LW Gw rfl rfl rfl H at0 hM ?_
 rintro o w hM H
 refine Pr rfl rfl (QL rfl rfl (Ab (Aa (Af (Pr rfl rfl (Ad rfl rfl (T1 rfl LW Gw zv_3 rfl rfl H at0 hM ?_)))))))
 simp only [T0,UI]
 obtain ⟨z,hz,hzb⟩:=Uy k
 rw [hz]
 refine Cz rfl rfl rfl (Ai rfl rfl (Ab (Aa (A5 (A8 (v:=(.bool _)) rfl rfl rfl ?_)))))
 exact ⟨congrArg Value.bool hzb,H.ext⟩
/-! ### Put -/
/-- k bytes of n, the greatest first. -/
def CP (n k:Nat):List UInt8:=(List.range k).map fun i=>UInt8.ofNat (n / 2 ^ (8*(k - 1 - i)))
theorem E8 (n k:Nat):(CP n k).length=k:=by simp [CP]
theorem Uz {n k i:Nat} (h:i<k):(CP n k).take (i+1)=(CP n k).take i++[UInt8.ofNat (n / 2 ^ (8*(k - 1 - i)))]:=Dm (Dl h)
theorem Kp (x:Nat):Value.int .u8 ((x % 256:Nat):Int)=bv (UInt8.ofNat x):=by
 unfold bv; congr 2
def putB (l:List UInt8) (n:Nat) (k:Int):List UInt8:=bif Hg k then l++CP n k.toNat else l

set_option maxHeartbeats 1000000 in
theorem OO (a:Option Addr) (c m:Nat) (l:List UInt8) (n:Nat) (k:Int) (w:World) (R:Rd w a 1 B8 l) (hml:l.length=m) (hm:m≤140737488351231) (_:n<18446744073709551616) :
  Ret Tryz.prog 85 #[.slice a m c,.int .u64 (n:Int),.int .i64 k] w fun v w'=>Fresh w w' 5 1 v ((putB l n k).map bv):=by
 subst hml
 obtain ⟨w0,rfl⟩:∃ w0,w0=w:=⟨_,rfl⟩
 refine A2 (fn:=Tryz.f85) Tryz.func85 rfl [.slice a l.length c,.int .u64 (n:Int),.int .i64 k] rfl (by kernel_rfl) ?_
 refine Af (AB rfl rfl (Ab (Aa (Af (An rfl rfl (Am rfl ZJ (WK a c l.length l _ R rfl (by omega)) rfl ?_))))))
 rintro v w ⟨F,-⟩
 obtain ⟨a7,n7,c7,full7,rfl,O,hb⟩:=F.ex
 have hn7:n7=l.length:=OS.num O
 subst hn7
 have H:Ctx w0 [] w (ent a7 5 full7):=⟨F.ext,fun x hx=>(hb x hx).1,JX,fun x hx => .inr (hb x hx).2⟩
 refine AB rfl rfl (Ab (Aa (Au (Af (Ad rfl rfl (Am rfl Vk (NI k _) rfl ?_))))))
 rintro v w ⟨rfl,hx⟩
 replace H:=H.call hx
 refine Bs rfl rfl (Ab (Aa (Ax _ rfl ?_ ?_)))
 ·intro h1
  replace h1:=Bp h1
  refine Af (An rfl rfl (AB rfl rfl (Ab (Aa (A5 (Ak (A8 (v:=(.slice _ _ _)) rfl rfl rfl ?_)))))))
  rw [putB,h1]
  exact Ctx.fresh (L:=[]) H O
 ·intro h1
  replace h1:=Bq h1
  obtain ⟨q,rfl,hq1,hq8⟩:=Q0 h1
  rw [putB,h1,show ((q:Int)).toNat=q from rfl]
  refine Ay (Aa (Au (Af (Ad rfl rfl (Ad rfl rfl (Ab (Aa (Aw (Bm 2147418496 (α:=Nat × Option Addr × Nat × List Value) (fun x=>[(16,.int .i64 x.1),(7,.slice x.2.1 (l.length+x.1) x.2.2.1)]) (fun x w'=>x.1≤q∧Ctx w0 [] w' (ent x.2.1 5 x.2.2.2)∧OS x.2.1 (l.length+x.1) x.2.2.1 1 x.2.2.2 ((l++(CP n q).take x.1).map bv)) (fun x=>q - x.1) (0,a7,c7,full7) rfl ?_ ?_ ?_)))))))))
  ·exact ⟨rfl,rfl,trivial⟩
  ·exact ⟨Nat.zero_le _,H,by simpa using O⟩
  ·rintro ⟨i,a7,c7,full7⟩ j w ⟨hi,H,O⟩; dsimp only at hi H O; dsimp only
   refine Af (AO rfl rfl rfl (Ab (Aa (Au (Ax _ rfl ?_ ?_)))))
   ·intro h2
    replace h2:=AE h2
    refine Ay (Aa (Au (Aw (Af (Ad rfl rfl (Ae rfl rfl (Ab (Aa (Aq (An rfl rfl (Ad rfl rfl ?_)))))))))))
    refine Ad rfl rfl (Bd rfl rfl rfl (by omega) (by omega) ?_)
    refine Ad rfl rfl (Bd rfl rfl rfl (by omega) (by omega) ?_)
    refine Cg rfl rfl rfl (by omega) (by omega) ?_
    rw [show (8:Int)*((q:Int) - 1 - (i:Int))=((8*(q - 1 - i):Nat):Int) from by omega]
    refine Ej rfl rfl rfl (by omega) ?_
    refine K5 rfl rfl F7 Jn ?_
    rw [Kp]
    refine Dd _ (.int _ _) rfl Dt Ij MG rfl (by decide) (by decide) rfl rfl rfl H ?_
    rintro b28 w - H
    refine De (L:=[]) rfl Dt Dt Ij Vf MG rfl (by decide) rfl rfl H O rfl (by simp [B0]) (by omega) ?_
    rintro a9 c9 full9 w H O
    refine AB rfl rfl (Ab (A1 (Aa (Aq (Ao rfl rfl rfl (by omega) (by omega) ?_)))))
    refine Ad rfl rfl (Ab (Aa ?_))
    refine ⟨(i+1,a9,c9,full9),rfl,⟨rfl,rfl,trivial⟩,⟨by omega,H,?_⟩,by dsimp only; omega⟩
    dsimp only
    have O':OS a9 (l.length+(i+1)) c9 1 full9 ((l++(CP n q).take i).map bv++[UInt8.ofNat (n / 2 ^ (8*(q - 1 - i)))].map bv):=O
    rw [← List.map_append,List.append_assoc,← Uz (by omega)] at O'
    exact O'
   ·intro h2
    replace h2:=AF h2
    have hiq:i=q:=by omega
    subst hiq
    refine Bh (Aj (Aj (AG (Aa (Af (An rfl rfl (AB rfl rfl (Ab (Aa (A5 (A8 (v:=(.slice _ _ _)) rfl rfl rfl ?_)))))))))))
    have hl:(CP n i).take i=CP n i:=List.take_of_length_le (by rw [E8]; exact Nat.le_refl _)
    rw [hl] at O
    exact Ctx.fresh (L:=[]) H O

/-! ### Take -/
def numN (l:List UInt8):Nat:=l.foldl (fun n c=>n*256+c.toNat) 0
theorem U0 (l:List UInt8) (c:UInt8):numN (l++[c])=numN l*256+c.toNat:=by simp [numN]
theorem JO (l:List UInt8):numN l<256 ^ l.length:=by
 have h:∀ (l:List UInt8) (n k:Nat),n<256 ^ k→l.foldl (fun n c=>n*256+c.toNat) n<256 ^ (k+l.length):=by
  intro l
  induction l with
  | nil=>intro n k h; simpa using h
  | cons c l ih =>
   intro n k h
   have hc:=G6 c
   have:=ih (n*256+c.toNat) (k+1) (by rw [Nat.pow_succ]; omega)
   simpa [Nat.add_assoc,Nat.add_comm 1] using this
 have:=h l 0 0 (by simp)
 rw [Nat.zero_add] at this
 exact this
theorem WL {l:List UInt8} {i:Nat} {c:UInt8} (h:l[i]? = some c) (hi:i<8):(numN (l.take i)*2 ^ 8 % 18446744073709551616) ||| c.toNat=numN (l.take (i+1)):=by
 have h1:=JO (l.take i)
 have hc:=G6 c
 have hlen:(l.take i).length≤7:=by rw [List.length_take]; omega
 have h2:256 ^ (l.take i).length≤256 ^ 7:=Nat.pow_le_pow_right (by omega) hlen
 have h3:(256:Nat) ^ 7=72057594037927936:=by decide
 rw [Dm h,U0,Nat.mod_eq_of_lt (by omega),Nat.mul_comm,← Nat.two_pow_add_eq_or_of_lt (by omega)]
def G7 (l:List UInt8) (at' k:Int):Int:=bif Hg k && (decide (0≤at') && decide (at'≤l.length)) then (bif decide (k≤(l.length:Int) - at') then 0 else 5) else 1
def Iz (l:List UInt8) (at' k:Int):Value:=bif decide (G7 l at' k=0) then .tuple #[.int .u64 (numN ((l.drop at'.toNat).take k.toNat):Int),.int .i64 (at'+k),.int .i64 0] else .tuple #[.int .u64 0,.int .i64 0,.int .i64 (G7 l at' k)]

set_option maxHeartbeats 1000000 in
theorem Mx (a:Option Addr) (c m:Nat) (l:List UInt8) (at' k:Int) (w:World) (R:Rd w a 1 B8 l) (hml:l.length=m) (hm:m≤9223372036854775799) (hc:l.length≤c) :
  Ret Tryz.prog 145 #[.slice a m c,.int .i64 at',.int .i64 k] w fun v w'=>v=Iz l at' k∧Ext [] w w':=by
 subst hml
 obtain ⟨w0,rfl⟩:∃ w0,w0=w:=⟨_,rfl⟩
 have H:=Ctx.start w0 []
 refine A2 (fn:=Tryz.f145) Tryz.func145 rfl [.slice a l.length c,.int .i64 at',.int .i64 k] rfl (by kernel_rfl) ?_
 refine Af (Ae rfl rfl (Ae rfl rfl (Ae rfl rfl (Ab (Aa (Au (Aw (Au (Af (Ad rfl rfl ?_))))))))))
 refine Am rfl Vk (NI k _) rfl ?_
 rintro v w ⟨rfl,hx⟩
 replace H:=H.call hx
 refine Bs rfl rfl (Ai rfl rfl (Ab (Aa (CS 11 rfl ?_ ?_))))
 ·intro h1
  replace h1:=Bp h1
  have he:G7 l at' k=1:=by unfold G7; rw [h1]; rfl
  refine Ay (Aa (CL rfl (Af (Ae rfl rfl (Ae rfl rfl (Ae rfl rfl (Ab (Aa (A5 (A3 (Ak (DB (v1:=(.int _ _)) (v2:=(.int _ _)) (v3:=(.int _ _)) rfl rfl rfl rfl rfl ?_))))))))))))
  exact ⟨by rw [Iz,he]; rfl,H.ext⟩
 ·intro h1
  replace h1:=Bq h1
  refine Af (Ad rfl rfl (AO rfl rfl rfl (Ai rfl rfl (Ab (Aa (CS 11 rfl ?_ ?_))))))
  ·intro h2
   replace h2:=AE h2
   have he:G7 l at' k=1:=by unfold G7; rw [decide_eq_false (show ¬ 0≤at' by omega),Bool.false_and,Bool.and_false]; rfl
   refine Ay (Aa (CL rfl (Af (Ae rfl rfl (Ae rfl rfl (Ae rfl rfl (Ab (Aa (A5 (A3 (Ak (DB (v1:=(.int _ _)) (v2:=(.int _ _)) (v3:=(.int _ _)) rfl rfl rfl rfl rfl ?_))))))))))))
   exact ⟨by rw [Iz,he]; rfl,H.ext⟩
  ·intro h2
   replace h2:=AF h2
   refine Aq (Ad rfl rfl (An rfl rfl (Bc rfl Dt rfl (Cz rfl rfl rfl (Ai rfl rfl (Ab (Aa (CS 11 rfl ?_ ?_))))))))
   ·intro h3
    replace h3:=AE h3
    have he:G7 l at' k=1:=by unfold G7; rw [decide_eq_false (show ¬ at'≤(l.length:Int) by omega),Bool.and_false,Bool.and_false]; rfl
    refine Af (Ae rfl rfl (Ae rfl rfl (Ae rfl rfl (Ab (Aa (A5 (A3 (Ak (DB (v1:=(.int _ _)) (v2:=(.int _ _)) (v3:=(.int _ _)) rfl rfl rfl rfl rfl ?_)))))))))
    exact ⟨by rw [Iz,he]; rfl,H.ext⟩
   ·intro h3
    replace h3:=AF h3
    obtain ⟨q,rfl,hq1,hq8⟩:=Q0 h1
    obtain ⟨o,rfl⟩:∃ o:Nat,at'=o:=⟨at'.toNat,by omega⟩
    have hE:G7 l (o:Int) (q:Int)=bif decide ((q:Int)≤(l.length:Int) - (o:Int)) then 0 else 5:=by
     unfold G7; rw [h1,decide_eq_true (show (0:Int)≤(o:Int) by omega),decide_eq_true (show (o:Int)≤(l.length:Int) by omega)]; rfl
    refine Af (An rfl rfl (Bc rfl Dt rfl (Ad rfl rfl (Bd rfl rfl rfl (by omega) (by omega) ?_))))
    refine Ad rfl rfl (AO rfl rfl rfl (Ai rfl rfl (Ab (Aa (Ax _ rfl ?_ ?_)))))
    ·intro h4
     replace h4:=AE h4
     rw [decide_eq_false (by omega)] at hE
     refine Af (Ae rfl rfl (Ae rfl rfl (Ae rfl rfl (Ab (Aa (A5 (A3 (Ak (DB (v1:=(.int _ _)) (v2:=(.int _ _)) (v3:=(.int _ _)) rfl rfl rfl rfl rfl ?_)))))))))
     exact ⟨by rw [Iz,hE]; rfl,H.ext⟩
    ·intro h4
     replace h4:=AF h4
     rw [decide_eq_true (by omega)] at hE
     have R':=((R.ext0 H.ext).cut o c hc).take q
     have hl:((l.drop o).take q).length=q:=by rw [List.length_take,List.length_drop]; omega
     refine Ay (A1 (Aa (Af (Ad rfl rfl (Ad rfl rfl (Ao rfl rfl rfl (by omega) (by omega) ?_))))))
     refine Ae rfl rfl (Ab (Aa (Au (Af (An rfl rfl (Ad rfl rfl (Ad rfl rfl (MA rfl Dt Ij rfl rfl rfl (by omega) (by omega) (by omega) ?_))))))))
     refine Bc rfl Dt rfl (Ad rfl rfl (Ab (Aa (Aw ?_))))
     rw [show ((o:Int)+(q:Int)).toNat - ((o:Int)).toNat=q by omega]
     refine Bm 70300024702016 (α:=Nat) (fun i=>[(36,.int .i64 i),(6,.int .u64 (numN (((l.drop o).take q).take i):Int))]) (fun i w'=>i≤q∧w=w') (fun i=>q - i) 0 rfl ?_ ?_ ?_
     ·exact ⟨rfl,rfl,trivial⟩
     ·exact ⟨Nat.zero_le _,rfl⟩
     ·rintro i j _ ⟨hi,rfl⟩
      refine Af (AO rfl rfl rfl (Ab (Aa (Au (Ax _ rfl ?_ ?_)))))
      ·intro h5
       replace h5:=AE h5
       obtain ⟨x,hx⟩:=AH (l:=(l.drop o).take q) (i:=i) (by omega)
       have hxb:=G6 x
       have hlt:=JO (((l.drop o).take q).take (i+1))
       have hst:=WL hx (by omega)
       refine Ay (Aa (Au (Aw (Af (Ba R' rfl Dt Ij rfl rfl (by omega) (by omega) (by omega) ?_)))))
       refine AX rfl ag_5 rfl (R'.one (f:=bv) hx) ?_
       refine Ae rfl rfl (Ab (Aa (Aq (Ad rfl rfl (LD (n:=8) rfl rfl rfl (by omega) ?_)))))
       refine Ad rfl rfl (DF rfl rfl Jn F7 (by omega) (by omega) ?_)
       refine T4 rfl rfl rfl (Nat.mod_lt _ (by decide)) (by omega) ?_
       rw [hst]
       refine Ae rfl rfl (Ab (A1 (Aa (Aq (Ao rfl rfl rfl (by omega) (by omega) ?_)))))
       refine Ad rfl rfl (Ab (Aa ?_))
       exact ⟨i+1,rfl,⟨rfl,rfl,trivial⟩,⟨by omega,rfl⟩,by omega⟩
      ·intro h5
       replace h5:=AF h5
       have hiq:i=q:=by omega
       subst hiq
       rw [show ((l.drop o).take i).take i=(l.drop o).take i from List.take_of_length_le (by omega)]
       refine Bh (Aj (Aj (AG (Aa (Af (Ad rfl rfl (Ad rfl rfl (Ae rfl rfl (Ae rfl rfl (Ae rfl rfl (Ab (Aa (A5 (DB (v1:=(.int _ _)) (v2:=(.int _ _)) (v3:=(.int _ _)) rfl rfl rfl rfl rfl ?_))))))))))))))
       exact ⟨by rw [Iz,hE]; rfl,H.ext⟩

end Go.Proofs.YtapphbmlkdhnmaaGreat

/- Numbers of eight bytes, and a round's bytes (what they are; the function that puts a row of numbers). -/
namespace Go.Proofs.YtapphbmlkdhnmaaGreat
open Go.GV
attribute [local irreducible] A4 W Wq Wt

/-! ### Numbers as bytes -/
/-- A number of 64 bits without its sign. -/
def u64 (n:Int):Nat:=(n % 18446744073709551616).toNat
theorem OQ (n:Int):u64 n<18446744073709551616:=by unfold u64; omega
theorem WM {n:Int} (h0:0≤n) (h1:n<18446744073709551616):((u64 n:Nat):Int)=n:=by unfold u64; omega
theorem Q1 (n:Int):IntKind.u64.wrap n=((u64 n:Nat):Int):=by
 have h:IntKind.u64.wrap n=n % 18446744073709551616:=rfl
 rw [h]
 unfold u64
 omega
theorem Zf (l:List UInt8) (n:Nat):putB l n 8=l++CP n 8:=rfl
/-- Numbers of eight bytes each. -/
def E0 (l:List Int):List UInt8:=l.flatMap fun n=>CP (u64 n) 8
theorem WN:E0 []=[]:=rfl
theorem Kq (x:Int) (l:List Int):E0 (x::l)=CP (u64 x) 8++E0 l:=rfl
theorem WO (l m:List Int):E0 (l++m)=E0 l++E0 m:=List.flatMap_append ..
theorem Gv (x:Int):E0 [x]=CP (u64 x) 8:=by rw [Kq,WN,List.append_nil]
theorem FG:∀ l:List Int,(E0 l).length=8*l.length
 | []=>rfl
 | x::l=>by
  rw [Kq,List.length_append,E8,FG l,List.length_cons]
  omega
theorem U2 {l:List Int} {i:Nat} {x:Int} (h:l[i]? = some x):E0 (l.take (i+1))=E0 (l.take i)++CP (u64 x) 8:=by
 rw [List.take_add_one,h,WO]
 exact congrArg _ (Gv x)
/-- The byte of a number. -/
def by8 (n:Int):UInt8:=UInt8.ofNat (n % 256).toNat
theorem Y4 (n:Int):Value.int .u8 (n % 256)=bv (by8 n):=by
 unfold by8
 have h:n % 256=(((n % 256).toNat % 256:Nat):Int):=by omega
 rw [h,Kp]
 congr 3
theorem Lo (n:Int):Value.int .u8 (IntKind.u8.wrap n)=bv (by8 n):=by
 rw [← Y4]
 rfl

/-! ### A round's bytes -/
def eB (r:Rnd) (i:Nat) (e:Ed) (x:Int):List UInt8 :=
 if i<r.ids.length then CP (u64 (r.ids.getD i 0)) 8++[by8 e.f,by8 e.t]++CP (u64 e.cap) 8++CP (u64 (-e.cost)) 2++CP (u64 x) 8
 else if e.f=r.N - 1 then CP (u64 e.cap) 8++CP (u64 x) 8
 else CP (u64 x) 8
def esB (r:Rnd) (k:Nat):List UInt8:=(List.range k).flatMap fun i=>eB r i (r.es.getD i e0) (r.fl.getD i 0)
theorem WP {r:Rnd} {k:Nat} {e:Ed} {x:Int} (he:r.es[k]? = some e) (hx:r.fl[k]? = some x):esB r (k+1)=esB r k++eB r k e x:=by
 unfold esB
 rw [List.range_succ,List.flatMap_append,List.flatMap_singleton,Bi he,Bi hx]
theorem Ab8 (r:Rnd) (i:Nat) (e:Ed) (x:Int):(eB r i e x).length≤28:=by
 unfold eB
 split
 ·simp [E8]
 ·split <;> simp [E8]
theorem OR (r:Rnd):∀ k,(esB r k).length≤28*k
 | 0=>by simp [esB]
 | k+1=>by
  have h1:=OR r k
  unfold esB at h1 ⊢
  rw [List.range_succ,List.flatMap_append,List.flatMap_singleton,List.length_append]
  have:=Ab8 r k (r.es.getD k e0) (r.fl.getD k 0)
  omega
def gwit:List UInt8:=[71,87,73,84]
def C2 (r:Rnd):List UInt8:=gwit++CP (u64 r.no) 8++CP (u64 r.day) 8++[bif r.cmp then 1 else 0,by8 (r.N - 1),by8 r.ids.length]
theorem Kr (r:Rnd):(C2 r).length=23:=by simp [C2,gwit,E8]
def G8 (r:Rnd):List UInt8:=C2 r++esB r r.es.length++E0 r.pot
/-- Four bytes of a word, the least first. -/
def leB (s k:Nat):List UInt8:=(List.range k).map fun i=>UInt8.ofNat (s / 2 ^ (8*i))
theorem Y5 (s k:Nat):(leB s k).length=k:=by simp [leB]
theorem WQ (s k:Nat):leB s (k+1)=leB s k++[UInt8.ofNat (s / 2 ^ (8*k))]:=by simp [leB,List.range_succ]
def HM (r:Rnd):List UInt8:=G8 r++leB (sumW (G8 r)).toNat 4

/-! ### The function that puts numbers -/
set_option maxHeartbeats 1000000 in
theorem IP (a a2:Option Addr) (c c2 m:Nat) (bl:List UInt8) (l:List Int) (w:World) (R:Rd w a 1 B8 bl) (hm:bl.length=m) (hm2:m≤100000000) (R2:Rd w a2 1 I1 l) (n:Nat) (hn:l.length=n) (hl:n≤1000000) (h0:0<n) :
  Ret Tryz.prog 86 #[.slice a m c,.slice a2 n c2] w fun v w'=>Fresh w w' 5 1 v ((bl++E0 l).map bv):=by
 subst hm
 subst hn
 obtain ⟨w0,rfl⟩:∃ w0,w0=w:=⟨_,rfl⟩
 have H:=Ctx.start w0 []
 refine A2 (fn:=Tryz.f86) Tryz.func86 rfl [.slice a bl.length c,.slice a2 l.length c2] rfl (by kernel_rfl) ?_
 refine Af (AB rfl rfl (Ab (Aa (Au (Af (An rfl rfl (Bc rfl AU rfl (Ad rfl rfl (Ab (Aa (Aw ?_)))))))))))
 refine Bm 261697 (α:=Nat × Option Addr × Nat) (fun x=>[(9,.int .i64 (x.1:Int)),(0,.slice x.2.1 (bl.length+8*x.1) x.2.2)]) (fun x w'=>x.1≤l.length∧Ctx w0 [] w' []∧Rd w' x.2.1 1 B8 (bl++E0 (l.take x.1))∧(0<x.1→Fresh w0 w' 5 1 (.slice x.2.1 (bl.length+8*x.1) x.2.2) ((bl++E0 (l.take x.1)).map bv))) (fun x=>l.length - x.1) (0,a,c) rfl ?_ ?_ ?_
 ·exact ⟨rfl,rfl,trivial⟩
 ·exact ⟨Nat.zero_le _,H,by simpa [E0] using R,fun h=>absurd h (Nat.lt_irrefl 0)⟩
 ·clear H
  rintro ⟨i,ai,ci⟩ j w ⟨hi,H,Ri,Fi⟩; dsimp only at hi H Ri Fi; dsimp only
  refine Af (AO rfl rfl rfl (Ab (Aa (Au (Ax _ rfl ?_ ?_)))))
  ·intro h1
   replace h1:=AE h1
   obtain ⟨x,hx⟩:=AH (l:=l) (i:=i) (by omega)
   have hlen:(bl++E0 (l.take i)).length=bl.length+8*i:=by rw [List.length_append,FG,List.length_take]; omega
   refine Ay (Aa (Au (Aw (Af (Ba R2 rfl AU Bw rfl rfl (by omega) (by omega) (by rfl) ?_)))))
   refine AX rfl B1 rfl (((R2.ext0 H.ext).fld hx rfl (j:=0) rfl)) ?_
   refine Ae rfl rfl (Ab (Aa (Aq (An rfl rfl (Ad rfl rfl (FZ rfl rfl Rh F7 ?_))))))
   rw [Q1]
   refine Am rfl SB (OO ai ci _ _ (u64 x) 8 _ Ri hlen (by omega) (OQ x)) rfl ?_
   rintro v w2 F0
   rw [Zf,List.append_assoc,← U2 hx] at F0
   have F:=Fresh.since F0 H.ext
   obtain ⟨a9,c9,rfl,R9,-⟩:=Fresh.rdB F0
   have hlen2:(bl++E0 (l.take (i+1))).length=bl.length+8*(i+1):=by { rw [List.length_append,FG,List.length_take]; omega }
   rw [hlen2] at F ⊢
   replace H:=H.call F0.ext
   refine AB rfl rfl (Ab (A1 (Aa (Aq (Ao rfl rfl rfl (by omega) (by omega) ?_)))))
   refine Ad rfl rfl (Ab (Aa ?_))
   exact ⟨(i+1,a9,c9),rfl,⟨rfl,rfl,trivial⟩,⟨by omega,H,R9,fun _=>F⟩,by dsimp only; omega⟩
  ·intro h1
   replace h1:=AF h1
   obtain rfl:i=l.length:=by omega
   refine Bh (Aj (Aj (AG (Aa (Af (An rfl rfl (AB rfl rfl (Ab (Aa (A5 (A8 (v:=(.slice _ _ _)) rfl rfl rfl ?_)))))))))))
   have:=Fi h0
   rw [List.take_length] at this
   exact this
end Go.Proofs.YtapphbmlkdhnmaaGreat

/- The function that puts a right round's bytes. -/
namespace Go.Proofs.YtapphbmlkdhnmaaGreat
open Go.GV
attribute [local irreducible] A4 W Wq Wt

/-- What a round's words hold. -/
structure WU (r:Rnd):Prop where
 no:0≤r.no∧r.no<18446744073709551616
 ids:∀ x∈r.ids,0≤x∧x<18446744073709551616
 day:r.day<9223372036854775808
theorem OT {w:World} {b t:Nat} {x:Int} (h:w.heap[b]? = some (Bl t [.int .i64 x])):Rd w (some ⟨b,0,none⟩) 1 I1 [x] :=
 Rd.of_bl (xs:=[x]) (enc:=I1) (r:=[]) h rfl (by simp)
theorem WS {w:World} {b t:Nat} {x y:Int} (h:w.heap[b]? = some (Bl t [.int .i64 x,.int .i64 y])):Rd w (some ⟨b,0,none⟩) 1 I1 [x,y] :=
 Rd.of_bl (xs:=[x,y]) (enc:=I1) (r:=[]) h rfl (by simp)
theorem IQ {w0 w w':World} {S:List Nat} {L:List (Nat × Obj)} {a a':Option Addr} {t:TypeId} {f f':List Value} (H:Ctx w0 S w (L++ent a t f)) (hx:Ext [] w w') (hb:∀ x∈ent a' t f',w'.heap[x.1]? = some x.2∧w.heap.size≤x.1):Ctx w0 S w' (L++ent a' t f') :=
 Ctx.left (L:=L++ent a' t f') (L':=ent a t f) ((Ctx.callEnt H hx hb JX).perm (by rw [List.append_assoc,List.append_assoc]; exact List.Perm.append_left L List.perm_append_comm))
theorem esB0 (r:Rnd):esB r 0=[]:=rfl
theorem one3 (l:List UInt8):∀ v∈l.map bv,B0 v=true:=fun v hv=>by
 obtain ⟨x,-,rfl⟩:=List.mem_map.1 hv
 rfl
set_option maxRecDepth 20000 in
set_option maxHeartbeats 8000000 in
theorem OU (r:Rnd) (q:RSl) (w:World) (RA:RAt w r q) (hEc:r.es.length≤q.cE) (hr:RBnd r) (hu:WU r):Ret Tryz.prog 29 #[.agg (AJ r q).toArray] w fun v w' =>
  (Bx r=true→∃ s,v = .tuple #[s,.int .i64 0]∧Fresh w w' 5 1 s ((HM r).map bv))∧(Bx r=false→v = .tuple #[.slice none 0 0,.int .i64 1]∧Ext [] w w'):=by
 obtain ⟨w0,rfl⟩:∃ w0,w0=w:=⟨_,rfl⟩
 have H:=Ctx.start w0 []
 obtain ⟨wr,hwr⟩:∃ wr,wr=Bx r:=⟨_,rfl⟩
 refine A2 (fn:=Tryz.f29) Tryz.func29 rfl [.agg (AJ r q).toArray] rfl (by kernel_rfl) ?_
 refine Af (Bu rfl (AJ r q) (.agg _) rfl rfl H ?_)
 rintro b1 w - H
 refine AB rfl rfl (Ae rfl rfl (Ab (Aa (Au (Af (Bf rfl CB Cw rfl H at0 rfl (Am rfl LQ (Ft r q _ (RA.ext0 H.ext) hEc hr) rfl ?_)))))))
 rintro v w ⟨rfl,hx11⟩
 replace H:=H.call hx11
 rw [← hwr]
 refine Bs rfl rfl (Ab (Aa (Ax _ rfl ?_ ?_)))
 ·intro h1
  replace h1:=Bp h1
  refine Af (AB rfl rfl (Ae rfl rfl (Ab (Aa (A5 (Ak (DI (v1:=(.slice _ _ _)) (v2:=(.int _ _)) rfl rfl rfl rfl ?_)))))))
  have h1':Bx r=false:=by rw [← hwr]; simpa using h1
  exact ⟨fun h=>(by rw [h1] at h; cases h),fun _=>⟨rfl,H.ext⟩⟩
 ·intro h1
  replace h1:=Bq h1
  have h1':Bx r=true:=by rw [← hwr]; simpa using h1
  have WW:=G5 h1'
  have hN1:=WW.N1
  have hN17:=WW.N17
  have hd64:=WW.d64
  have he200:=WW.e200
  have hle:=WW.len
  have hpo:=WW.pot
  have RI:=RA.I
  have RE:=RA.E
  have RF:=RA.F
  have RP:=RA.P
  refine Ay (Aa (Af (Dn (gwit.map bv) rfl Dt Ij MG (by decide) (by decide) (by kernel_rfl) H ?_)))
  rintro b13 w - H
  refine QM (l:=gwit) rfl Dt Jn rfl H at0 ?_
  rintro w H R13
  refine Ah rfl XE rfl (A9 rfl BJ rfl H at1 rfl (Am rfl SB (OO (some ⟨b13,0,none⟩) 4 4 gwit (u64 r.no) 8 _ R13 rfl (by decide) (OQ _)) (by rw [WM hu.no.1 hu.no.2]; rfl) ?_))
  rintro v w2 F
  rw [Zf] at F
  obtain ⟨a4,n4,c4,f4,rfl,O,hb4⟩:=F.ex
  obtain rfl:n4=(gwit++CP (u64 r.no) 8).length:=OS.num O
  replace H:Ctx w0 [] w2 ((b1,Bl 33 (AJ r q))::ent a4 5 f4):=(Ctx.callEnt H F.ext hb4 JX).tail
  refine AB rfl rfl (Ab (Aa (Af (Ae rfl rfl (Ab (Aa (Au (Af (Ah rfl IE rfl (A9 rfl Hs rfl H at0 rfl (Ab (Aa ?_))))))))))))
  refine Ek 32 (α:=Unit) (fun _=>[(5,bv (bif r.cmp then 1 else 0))]) (fun _ w'=>w'=w2) rfl ?_ ?_
  ·skip
   refine Ax _ rfl ?_ ?_
   ·intro h2
    refine Aq (Ae rfl rfl (Ab (Aa ?_)))
    exact ⟨(),rfl,⟨by rw [h2]; rfl,trivial⟩,rfl⟩
   ·intro h2
    refine Ay (Aa ?_)
    exact ⟨(),rfl,⟨by rw [h2]; rfl,trivial⟩,rfl⟩
  ·rintro - j5 w rfl
   refine Dx 34358689808 (α:=Option Addr × Nat × List Value) (fun z=>[(4,.slice z.1 (C2 r).length z.2.1)]) (fun z w'=>Ctx w0 [] w' ((b1,Bl 33 (AJ r q))::ent z.1 5 z.2.2)∧OS z.1 (C2 r).length z.2.1 1 z.2.2 ((C2 r).map bv)) rfl ?_ ?_
   ·skip
    have hb1:=H.get at0
    have R4:Rd w a4 1 B8 (gwit++CP (u64 r.no) 8):=OS.rdB O fun x hx=>H.blk x (List.mem_cons_of_mem _ hx)
    refine JA (n:=14) (N:=16) (anc:=Kf 14 [[],[],[1],[1,2],[0,1,2,3],[],[],[0,1,2,3,4,6],[0,1,2,3,4,6,7],[],[9],[9,10],[9,10,11],[0,1,2,3,4,5,6,7,8,9,10,11,12]]) (fun i=>20+i) [isV (.slice a4 (gwit++CP (u64 r.no) 8).length c4),isV (.pointer (some ⟨b1,1,none⟩)),isV (.int .i64 r.day),nbV 2 1 [.int .i64 r.day],frV w 5 1 (((gwit++CP (u64 r.no) 8)++E0 [r.day]).map bv),isV (bv (bif r.cmp then 1 else 0)),isV (.agg (AJ r q).toArray),isV (.int .i64 (r.N - 1)),isV (bv (by8 (r.N - 1))),isV (.pointer (some ⟨b1,3,none⟩)),isV (.slice q.aI r.ids.length q.cI),isV (.int .i64 (r.ids.length:Int)),isV (bv (by8 r.ids.length)),nbV 5 3 [bv (bif r.cmp then 1 else 0),bv (by8 (r.N - 1)),bv (by8 r.ids.length)]] (show Tryz.prog.follows .mixedOrders=true by kernel_rfl) rfl (by decide) (by kernel_rfl) (DS _) (fun i j _ _ h=>by have h:20+i=20+j:=h; omega) ⟨C6 _,C6 _,C6 _,Ke _ _ _,LN _ _ _ _,C6 _,C6 _,C6 _,C6 _,C6 _,C6 _,C6 _,C6 _,Ke _ _ _,trivial⟩ ?_ ?_
    ·intro m o e' w' hm ho hold hg hx
     have hin:∀ t:Nat,t<20→∀ j,j<14→t≠20+j:=fun t ht j hj=>by omega
     have hx0:Ext [] w w':=(Ext.drew [] w).trans hx
     have g1:e'.g 1=ptr b1:=(hold 1 (hin 1 (by decide))).trans rfl
     have g4:e'.g 4 = .slice a4 (gwit++CP (u64 r.no) 8).length c4:=(hold 4 (hin 4 (by decide))).trans rfl
     have hc1:w'.heap[b1]? = some (Bl 33 (AJ r q)):=hx0.to hb1 (by simp)
     have g5:e'.g 5=bv (bif r.cmp then 1 else 0):=(hold 5 (hin 5 (by decide))).trans rfl
     have hcs:m=0∨m=1∨m=2∨m=3∨m=4∨m=5∨m=6∨m=7∨m=8∨m=9∨m=10∨m=11∨m=12∨m=13:=by omega
     rcases hcs with rfl | rfl | rfl | rfl | rfl | rfl | rfl | rfl | rfl | rfl | rfl | rfl | rfl | rfl
     ·cases Option.some.inj ho
      exact BX rfl _ g4 (Ab ⟨_,.refl _ _,rfl,rfl⟩)
     ·cases Option.some.inj ho
      exact Ah (off:=1) rfl (by kernel_rfl) g1 (Ab ⟨_,.refl _ _,rfl,rfl⟩)
     ·cases Option.some.inj ho
      exact AX rfl B1 (hg 1 (by decide)) (by rw [Ap hc1]; rfl) (Ab ⟨_,.refl _ _,rfl,rfl⟩)
     ·cases Option.some.inj ho
      refine Dn [.int .i64 r.day] rfl AU Bw F8 (by decide) (by decide) ?_ (Ctx.start w' []) ?_
      ·show Instr.fill _ _ [(0,e'.g 22)]=_
       rw [show e'.g 22 = .int .i64 r.day from (hg 2 (by decide))]
       kernel_rfl
      ·intro b w2 _ H
       exact Ab ⟨_,H.ext,rfl,b,rfl,H.get at0⟩
     ·cases Option.some.inj ho
      obtain ⟨b3,h3,hb3⟩:=hg 3 (by decide)
      refine Am rfl Np (IP a4 (some ⟨b3,0,none⟩) c4 1 _ (gwit++CP (u64 r.no) 8) [r.day] _ (R4.ext0 hx0) rfl (by simp [gwit,E8]) (OT hb3) 1 rfl (by decide) (by decide)) ?_ ?_
      ·show [e'.g 20,e'.g 23]=_
       rw [show e'.g 20 = .slice a4 (gwit++CP (u64 r.no) 8).length c4 from hg 0 (by decide),show e'.g 23 = .slice (some ⟨b3,0,none⟩) 1 1 from h3]
      ·intro v w2 F
       exact Ab ⟨_,F.ext,rfl,Fresh.since F hx0⟩
     ·cases Option.some.inj ho
      exact BX rfl _ g5 (Ab ⟨_,.refl _ _,rfl,rfl⟩)
     ·cases Option.some.inj ho
      exact Ce (AJ r q) rfl CB Cw g1 rfl (C1 (b:=b1) (t:=33) (l:=AJ r q) hc1 0 (AJ r q) rfl) (Ab ⟨_,.refl _ _,rfl,rfl⟩)
     ·cases Option.some.inj ho
      refine Am rfl HR (FM r q _ (by omega)) ?_ ?_
      ·show [e'.g 26]=_
       rw [show e'.g 26 = .agg (AJ r q).toArray from hg 6 (by decide)]
      ·rintro v w2 ⟨rfl,h2⟩
       exact Ab ⟨_,h2,rfl,rfl⟩
     ·cases Option.some.inj ho
      exact FZ rfl (hg 7 (by decide)) Gw Jn (Ab ⟨_,.refl _ _,rfl,Lo _⟩)
     ·cases Option.some.inj ho
      exact Ah (off:=3) rfl (by kernel_rfl) g1 (Ab ⟨_,.refl _ _,rfl,rfl⟩)
     ·cases Option.some.inj ho
      exact AX rfl EH (hg 9 (by decide)) (by rw [Ap hc1]; rfl) (Ab ⟨_,.refl _ _,rfl,rfl⟩)
     ·cases Option.some.inj ho
      exact Bc rfl Bb (hg 10 (by decide)) (Ab ⟨_,.refl _ _,rfl,rfl⟩)
     ·cases Option.some.inj ho
      exact FZ rfl (hg 11 (by decide)) Gw Jn (Ab ⟨_,.refl _ _,rfl,Lo _⟩)
     ·cases Option.some.inj ho
      refine Dn [bv (bif r.cmp then 1 else 0),bv (by8 (r.N - 1)),bv (by8 r.ids.length)] rfl Dt Ij MG (by decide) (by decide) ?_ (Ctx.start w' []) ?_
      ·show Instr.fill _ _ [(0,e'.g 25),(1,e'.g 28),(2,e'.g 32)]=_
       rw [show e'.g 25=bv (bif r.cmp then 1 else 0) from (hg 5 (by decide)),show e'.g 28=bv (by8 (r.N - 1)) from (hg 8 (by decide)),show e'.g 32=bv (by8 r.ids.length) from (hg 12 (by decide))]
       kernel_rfl
      ·intro b w2 _ H
       exact Ab ⟨_,H.ext,rfl,b,rfl,H.get at0⟩
    ·intro e' w' hds hold hg hx
     have hx0:Ext [] w w':=(Ext.drew [] w).trans hx
     obtain ⟨b3,h3,hb3⟩:=hg 13 (by decide)
     have F:Fresh w w' 5 1 (e'.g 24) (((gwit++CP (u64 r.no) 8)++E0 [r.day]).map bv):=hg 4 (by decide)
     obtain ⟨a,n,c,full,h4,O4,hb4'⟩:=F.ex
     obtain rfl:=OS.num O4
     have H5:Ctx w0 [] w' ([(b1,Bl 33 (AJ r q))]++ent a 5 full):=IQ (L:=[(b1,Bl 33 (AJ r q))]) H F.ext hb4'
     refine D4 rfl Dt Dt Ij Vf MG rfl (by decide) ([(bif r.cmp then 1 else 0),by8 (r.N - 1),by8 r.ids.length].map bv) h4 h3 H5 O4 rfl (one3 _) (fun j v hv=>⟨_,rfl,by rw [Cu,Nat.zero_add,Ap hb3]; exact hv⟩) (by simp [gwit,E8,FG]) fun a' c' full' w3 H6 O6=>?_
     refine BU rfl _ (Dj _ _ _) (Ab ?_)
     rw [← List.map_append] at O6
     have hlen:((gwit++CP (u64 r.no) 8++E0 [r.day]).length+3)=(C2 r).length:=by rw [Gv]; simp only [C2,List.length_append,List.length_cons,List.length_nil]
     have hB:gwit++CP (u64 r.no) 8++E0 [r.day]++[(bif r.cmp then 1 else 0),by8 (r.N - 1),by8 r.ids.length]=C2 r:=by rw [Gv]; rfl
     rw [hlen] at O6 ⊢
     rw [hB] at O6
     exact ⟨(a',c',full'),hds,⟨Dj _ _ _,trivial⟩,H6,O6⟩
   ·rintro ⟨a4,c4,f4⟩ j7 w ⟨H,O⟩; dsimp only at H O; dsimp only
    refine Au (Af (Ah rfl CG rfl (Ah rfl BO rfl (A9 rfl CF rfl H at0 rfl (Bc rfl BT rfl (Ad rfl rfl (Ab (Aa (Aw (Bm 2535301200456458802443650597328 (α:=Nat × Option Addr × Nat × List Value) (fun z=>[(39,.int .i64 (z.1:Int)),(4,.slice z.2.1 (C2 r++esB r z.1).length z.2.2.1)]) (fun z w'=>z.1≤r.es.length∧Ctx w0 [] w' ((b1,Bl 33 (AJ r q))::ent z.2.1 5 z.2.2.2)∧OS z.2.1 (C2 r++esB r z.1).length z.2.2.1 1 z.2.2.2 ((C2 r++esB r z.1).map bv)) (fun z=>r.es.length - z.1) (0,a4,c4,f4) rfl ?_ ?_ ?_))))))))))
    ·exact ⟨rfl,by rw [esB0,List.append_nil]; rfl,trivial⟩
    ·exact ⟨Nat.zero_le _,H,by dsimp only; rw [esB0,List.append_nil]; exact O⟩
    ·clear H O
     rintro ⟨i,a4,c4,f4⟩ j w ⟨hi,H,O⟩; dsimp only at hi H O; dsimp only
     refine Af (AO rfl rfl rfl (Ab (Aa (Au (Ax _ rfl ?_ ?_)))))
     ·intro h2
      replace h2:=AE h2
      obtain ⟨e,he⟩:=AH (l:=r.es) (i:=i) (by omega)
      obtain ⟨x,hxx⟩:=AH (l:=r.fl) (i:=i) (by omega)
      have hst:=WP he hxx
      have hbs:(C2 r++esB r i).length≤6000:=by have:=OR r i; rw [List.length_append,Kr]; omega
      have hed:=CM ((BM (BA WW.wi).2.1).2.2.2.1 e (List.mem_of_getElem? he))
      refine Ay (Aa (Au (Aw (Af (Ad rfl rfl (Ba RE rfl BT B7 rfl rfl (by omega) (by omega) (by rfl) ?_))))))
      refine Ce _ rfl Ec B7 rfl rfl (((RE.ext0 H.ext).row he rfl)) ?_
      refine Bn rfl Dq H ?_
      rintro b7 w - H
      refine Ae rfl rfl (BG rfl B7 rfl rfl rfl (by exact CN _) H at0 rfl ?_)
      rintro w H
      refine Ab (Aa (Af (Ah rfl Ex rfl (Ah rfl EL rfl (A9 rfl BL rfl H at1 rfl (Ad rfl rfl (Ba RF rfl AU Bw rfl rfl (by omega) (by omega) (by rfl) ?_)))))))
      refine AX rfl B1 rfl (((RF.ext0 H.ext).fld hxx rfl (j:=0) rfl)) ?_
      refine Ae rfl rfl (Ab (Aa (Aw (Af (Ad rfl rfl (Ah rfl Ew rfl (A9 rfl EH rfl H at1 rfl (Bc rfl Bb rfl (AO rfl rfl rfl (Ai rfl rfl ?_))))))))))
      refine Ab (Aa (Ax _ rfl ?_ ?_))
      ·intro h3
       replace h3:=AE h3
       obtain ⟨id,hid0⟩:=AH (l:=r.ids) (i:=i) (by omega)
       have hid:=hu.ids id (List.mem_of_getElem? hid0)
       have hde:=Ln (WW.due i e (by omega) he)
       refine Dx 37777778941452554862608 (α:=Option Addr × Nat × List Value) (fun z=>[(4,.slice z.1 (C2 r++esB r i++CP (u64 id) 8++[by8 e.f,by8 e.t]).length z.2.1)]) (fun z w'=>Ctx w0 [] w' ((b7,Bl 92 (Bv e))::(b1,Bl 33 (AJ r q))::ent z.1 5 z.2.2)∧OS z.1 (C2 r++esB r i++CP (u64 id) 8++[by8 e.f,by8 e.t]).length z.2.1 1 z.2.2 ((C2 r++esB r i++CP (u64 id) 8++[by8 e.f,by8 e.t]).map bv)) rfl ?_ ?_
       ·skip
        have hb1:=H.get at1
        have hb7:=H.get at0
        have R4:Rd w a4 1 B8 (C2 r++esB r i):=OS.rdB O fun x hx=>H.blk x (List.mem_cons_of_mem _ (List.mem_cons_of_mem _ hx))
        refine JA (n:=14) (N:=16) (anc:=Kf 14 [[],[],[1],[],[1,2,3],[1,2,3,4],[0,1,2,3,4,5],[],[7],[7,8],[],[10],[10,11],[7,8,9,10,11,12]]) (fun i=>60+i) [isV (.slice a4 (C2 r++esB r i).length c4),isV (.pointer (some ⟨b1,3,none⟩)),isV (.slice q.aI r.ids.length q.cI),isV (.int .i64 (i:Int)),isV (.pointer (some ⟨(adr q.aI).block,(adr q.aI).off+i*1,none⟩)),isV (Eu id),frV w 5 1 (((C2 r++esB r i)++CP (u64 id) 8).map bv),isV (.pointer (some ⟨b7,0,none⟩)),isV (.int .i64 e.f),isV (bv (by8 e.f)),isV (.pointer (some ⟨b7,1,none⟩)),isV (.int .i64 e.t),isV (bv (by8 e.t)),nbV 5 2 [bv (by8 e.f),bv (by8 e.t)]] (show Tryz.prog.follows .mixedOrders=true by kernel_rfl) rfl (by decide) (by kernel_rfl) (DS _) (fun i j _ _ h=>by have h:60+i=60+j:=h; omega) ⟨C6 _,C6 _,C6 _,C6 _,C6 _,C6 _,LN _ _ _ _,C6 _,C6 _,C6 _,C6 _,C6 _,C6 _,Ke _ _ _,trivial⟩ ?_ ?_
        ·intro m o e' w' hm ho hold hg hx
         have hin:∀ t:Nat,t<60→∀ j,j<14→t≠60+j:=fun t ht j hj=>by omega
         have hx0:Ext [] w w':=(Ext.drew [] w).trans hx
         have g1:e'.g 1=ptr b1:=(hold 1 (hin 1 (by decide))).trans rfl
         have g4:e'.g 4 = .slice a4 (C2 r++esB r i).length c4:=(hold 4 (hin 4 (by decide))).trans rfl
         have hc1:w'.heap[b1]? = some (Bl 33 (AJ r q)):=hx0.to hb1 (by simp)
         have g6:e'.g 6 = .int .i64 (i:Int):=(hold 6 (hin 6 (by decide))).trans rfl
         have g7:e'.g 7=ptr b7:=(hold 7 (hin 7 (by decide))).trans rfl
         have hc7:w'.heap[b7]? = some (Bl 92 (Bv e)):=hx0.to hb7 (by simp)
         have hcs:m=0∨m=1∨m=2∨m=3∨m=4∨m=5∨m=6∨m=7∨m=8∨m=9∨m=10∨m=11∨m=12∨m=13:=by omega
         rcases hcs with rfl | rfl | rfl | rfl | rfl | rfl | rfl | rfl | rfl | rfl | rfl | rfl | rfl | rfl
         ·cases Option.some.inj ho
          exact BX rfl _ g4 (Ab ⟨_,.refl _ _,rfl,rfl⟩)
         ·cases Option.some.inj ho
          exact Ah (off:=3) rfl (by kernel_rfl) g1 (Ab ⟨_,.refl _ _,rfl,rfl⟩)
         ·cases Option.some.inj ho
          exact AX rfl EH (hg 1 (by decide)) (by rw [Ap hc1]; rfl) (Ab ⟨_,.refl _ _,rfl,rfl⟩)
         ·cases Option.some.inj ho
          exact BX rfl _ g6 (Ab ⟨_,.refl _ _,rfl,rfl⟩)
         ·cases Option.some.inj ho
          exact Ba RI rfl Bb AZ (hg 2 (by decide)) (hg 3 (by decide)) (by omega) (by omega) rfl (Ab ⟨_,.refl _ _,rfl,rfl⟩)
         ·cases Option.some.inj ho
          exact AX rfl BJ (hg 4 (by decide)) ((RI.ext0 (H.ext.trans hx0)).fld hid0 rfl (j:=0) rfl) (Ab ⟨_,.refl _ _,rfl,rfl⟩)
         ·cases Option.some.inj ho
          refine Am rfl SB (OO a4 c4 _ (C2 r++esB r i) (u64 id) 8 _ (R4.ext0 hx0) rfl (by omega) (OQ _)) ?_ ?_
          ·show [e'.g 60,e'.g 65,.int .i64 8]=_
           rw [show e'.g 60 = .slice a4 (C2 r++esB r i).length c4 from hg 0 (by decide),show e'.g 65=Eu id from hg 5 (by decide),WM hid.1 hid.2]
           rfl
          ·intro v w2 F
           exact Ab ⟨_,F.ext,rfl,Fresh.since F hx0⟩
         ·cases Option.some.inj ho
          exact Ah (off:=0) rfl (by kernel_rfl) g7 (Ab ⟨_,.refl _ _,rfl,rfl⟩)
         ·cases Option.some.inj ho
          exact AX rfl BC (hg 7 (by decide)) (by rw [Ap hc7]; rfl) (Ab ⟨_,.refl _ _,rfl,rfl⟩)
         ·cases Option.some.inj ho
          exact FZ rfl (hg 8 (by decide)) Gw Jn (Ab ⟨_,.refl _ _,rfl,Lo _⟩)
         ·cases Option.some.inj ho
          exact Ah (off:=1) rfl (by kernel_rfl) g7 (Ab ⟨_,.refl _ _,rfl,rfl⟩)
         ·cases Option.some.inj ho
          exact AX rfl BC (hg 10 (by decide)) (by rw [Ap hc7]; rfl) (Ab ⟨_,.refl _ _,rfl,rfl⟩)
         ·cases Option.some.inj ho
          exact FZ rfl (hg 11 (by decide)) Gw Jn (Ab ⟨_,.refl _ _,rfl,Lo _⟩)
         ·cases Option.some.inj ho
          refine Dn [bv (by8 e.f),bv (by8 e.t)] rfl Dt Ij MG (by decide) (by decide) ?_ (Ctx.start w' []) ?_
          ·show Instr.fill _ _ [(0,e'.g 69),(1,e'.g 72)]=_
           rw [show e'.g 69=bv (by8 e.f) from (hg 9 (by decide)),show e'.g 72=bv (by8 e.t) from (hg 12 (by decide))]
           kernel_rfl
          ·intro b w2 _ H
           exact Ab ⟨_,H.ext,rfl,b,rfl,H.get at0⟩
        ·intro e' w' hds hold hg hx
         have hx0:Ext [] w w':=(Ext.drew [] w).trans hx
         obtain ⟨b3,h3,hb3⟩:=hg 13 (by decide)
         have F:Fresh w w' 5 1 (e'.g 66) (((C2 r++esB r i)++CP (u64 id) 8).map bv):=hg 6 (by decide)
         obtain ⟨a,n,c,full,h4,O4,hb4'⟩:=F.ex
         obtain rfl:=OS.num O4
         have H5:Ctx w0 [] w' ([(b7,Bl 92 (Bv e)),(b1,Bl 33 (AJ r q))]++ent a 5 full):=IQ (L:=[(b7,Bl 92 (Bv e)),(b1,Bl 33 (AJ r q))]) H F.ext hb4'
         refine D4 rfl Dt Dt Ij Vf MG rfl (by decide) ([by8 e.f,by8 e.t].map bv) h4 h3 H5 O4 rfl (one3 _) (fun j v hv=>⟨_,rfl,by rw [Cu,Nat.zero_add,Ap hb3]; exact hv⟩) (by rw [List.length_append,E8]; omega) fun a' c' full' w3 H6 O6=>?_
         refine BU rfl _ (Dj _ _ _) (Ab ?_)
         rw [← List.map_append] at O6
         have hlen:((C2 r++esB r i)++CP (u64 id) 8).length+2=(C2 r++esB r i++CP (u64 id) 8++[by8 e.f,by8 e.t]).length:=by simp only [List.length_append,List.length_cons,List.length_nil]
         rw [hlen] at O6 ⊢
         exact ⟨(a',c',full'),hds,⟨Dj _ _ _,trivial⟩,H6,O6⟩
       ·rintro ⟨a4,c4,f4⟩ j14 w ⟨H,O⟩; dsimp only at H O; dsimp only
        have hb2:(C2 r++esB r i++CP (u64 id) 8++[by8 e.f,by8 e.t]).length≤6010:=by simp only [List.length_append,E8,List.length_cons,List.length_nil] at hbs ⊢; omega
        have hfin:(C2 r++esB r i++CP (u64 id) 8++[by8 e.f,by8 e.t])++E0 [e.cap]++CP (u64 (-e.cost)) 2++E0 [x]=C2 r++esB r (i+1):=by
         rw [hst]
         unfold eB
         rw [if_pos (by omega),Bi hid0,Gv,Gv]
         simp only [List.append_assoc]
        refine Ld 309447230889482111563071504 (α:=Option Addr × Nat × List Value) (fun z=>[(4,.slice z.1 (C2 r++esB r (i+1)).length z.2.1)]) (fun z w'=>Ctx w0 [] w' ((b7,Bl 92 (Bv e))::(b1,Bl 33 (AJ r q))::ent z.1 5 z.2.2)∧OS z.1 (C2 r++esB r (i+1)).length z.2.1 1 z.2.2 ((C2 r++esB r (i+1)).map bv)) rfl ?_ ?_
        ·skip
         have hb7:=H.get at0
         have R4:Rd w a4 1 B8 (C2 r++esB r i++CP (u64 id) 8++[by8 e.f,by8 e.t]):=OS.rdB O fun x hx=>H.blk x (List.mem_cons_of_mem _ (List.mem_cons_of_mem _ hx))
         refine JA (n:=13) (N:=14) (anc:=Kf 13 [[],[],[1],[1,2],[0,1,2,3],[],[5],[5,6],[5,6,7],[0,1,2,3,4,5,6,7,8],[],[10],[0,1,2,3,4,5,6,7,8,9,10,11]]) (fun i=>75+i) [isV (.slice a4 ((C2 r++esB r i)++CP (u64 id) 8++[by8 e.f,by8 e.t]).length c4),isV (.pointer (some ⟨b7,2,none⟩)),isV (.int .i64 e.cap),nbV 2 1 [.int .i64 e.cap],frV w 5 1 ((((C2 r++esB r i)++CP (u64 id) 8++[by8 e.f,by8 e.t])++E0 [e.cap]).map bv),isV (.pointer (some ⟨b7,3,none⟩)),isV (.int .i64 e.cost),isV (.int .i64 (-e.cost)),isV (.int .u64 ((u64 (-e.cost):Nat):Int)),frV w 5 1 ((((C2 r++esB r i)++CP (u64 id) 8++[by8 e.f,by8 e.t])++E0 [e.cap]++CP (u64 (-e.cost)) 2).map bv),isV (.int .i64 x),nbV 2 1 [.int .i64 x],frV w 5 1 ((((C2 r++esB r i)++CP (u64 id) 8++[by8 e.f,by8 e.t])++E0 [e.cap]++CP (u64 (-e.cost)) 2++E0 [x]).map bv)] (show Tryz.prog.follows .mixedOrders=true by kernel_rfl) rfl (by decide) (by kernel_rfl) (DS _) (fun i j _ _ h=>by have h:75+i=75+j:=h; omega) ⟨C6 _,C6 _,C6 _,Ke _ _ _,LN _ _ _ _,C6 _,C6 _,C6 _,C6 _,LN _ _ _ _,C6 _,Ke _ _ _,LN _ _ _ _,trivial⟩ ?_ ?_
         ·intro m o e' w' hm ho hold hg hx
          have hin:∀ t:Nat,t<75→∀ j,j<13→t≠75+j:=fun t ht j hj=>by omega
          have hx0:Ext [] w w':=(Ext.drew [] w).trans hx
          have g4:e'.g 4 = .slice a4 ((C2 r++esB r i)++CP (u64 id) 8++[by8 e.f,by8 e.t]).length c4:=(hold 4 (hin 4 (by decide))).trans rfl
          have g7:e'.g 7=ptr b7:=(hold 7 (hin 7 (by decide))).trans rfl
          have g8:e'.g 8 = .int .i64 x:=(hold 8 (hin 8 (by decide))).trans rfl
          have hc7:w'.heap[b7]? = some (Bl 92 (Bv e)):=hx0.to hb7 (by simp)
          have hcs:m=0∨m=1∨m=2∨m=3∨m=4∨m=5∨m=6∨m=7∨m=8∨m=9∨m=10∨m=11∨m=12:=by omega
          rcases hcs with rfl | rfl | rfl | rfl | rfl | rfl | rfl | rfl | rfl | rfl | rfl | rfl | rfl
          ·cases Option.some.inj ho
           exact BX rfl _ g4 (Ab ⟨_,.refl _ _,rfl,rfl⟩)
          ·cases Option.some.inj ho
           exact Ah (off:=2) rfl (by kernel_rfl) g7 (Ab ⟨_,.refl _ _,rfl,rfl⟩)
          ·cases Option.some.inj ho
           exact AX rfl B1 (hg 1 (by decide)) (by rw [Ap hc7]; rfl) (Ab ⟨_,.refl _ _,rfl,rfl⟩)
          ·cases Option.some.inj ho
           refine Dn [.int .i64 e.cap] rfl AU Bw F8 (by decide) (by decide) ?_ (Ctx.start w' []) ?_
           ·show Instr.fill _ _ [(0,e'.g 77)]=_
            rw [show e'.g 77 = .int .i64 e.cap from (hg 2 (by decide))]
            kernel_rfl
           ·intro b w2 _ H
            exact Ab ⟨_,H.ext,rfl,b,rfl,H.get at0⟩
          ·cases Option.some.inj ho
           obtain ⟨b3,h3,hb3⟩:=hg 3 (by decide)
           refine Am rfl Np (IP a4 (some ⟨b3,0,none⟩) c4 1 _ ((C2 r++esB r i)++CP (u64 id) 8++[by8 e.f,by8 e.t]) [e.cap] _ (R4.ext0 hx0) rfl (by omega) (OT hb3) 1 rfl (by decide) (by decide)) ?_ ?_
           ·show [e'.g 75,e'.g 78]=_
            rw [show e'.g 75 = .slice a4 ((C2 r++esB r i)++CP (u64 id) 8++[by8 e.f,by8 e.t]).length c4 from hg 0 (by decide),show e'.g 78 = .slice (some ⟨b3,0,none⟩) 1 1 from h3]
           ·intro v w2 F
            exact Ab ⟨_,F.ext,rfl,Fresh.since F hx0⟩
          ·cases Option.some.inj ho
           exact Ah (off:=3) rfl (by kernel_rfl) g7 (Ab ⟨_,.refl _ _,rfl,rfl⟩)
          ·cases Option.some.inj ho
           exact AX rfl B1 (hg 5 (by decide)) (by rw [Ap hc7]; rfl) (Ab ⟨_,.refl _ _,rfl,rfl⟩)
          ·cases Option.some.inj ho
           exact EN rfl (hg 6 (by decide)) (by omega) (by omega) (Ab ⟨_,.refl _ _,rfl,rfl⟩)
          ·cases Option.some.inj ho
           exact FZ rfl (hg 7 (by decide)) Rh F7 (Ab ⟨_,.refl _ _,rfl,congrArg (Value.int .u64) (Q1 _)⟩)
          ·cases Option.some.inj ho
           have F4:Fresh w w' 5 1 (e'.g 79) ((((C2 r++esB r i)++CP (u64 id) 8++[by8 e.f,by8 e.t])++E0 [e.cap]).map bv):=hg 4 (by decide)
           obtain ⟨a9,c9,h9,R9,-⟩:=Fresh.rdB F4
           refine Am rfl SB (OO a9 c9 _ (((C2 r++esB r i)++CP (u64 id) 8++[by8 e.f,by8 e.t])++E0 [e.cap]) (u64 (-e.cost)) 2 _ R9 rfl (by rw [List.length_append,FG,List.length_singleton]; omega) (OQ _)) ?_ ?_
           ·show [e'.g 79,e'.g 83,.int .i64 2]=_
            rw [h9,show e'.g 83 = .int .u64 ((u64 (-e.cost):Nat):Int) from hg 8 (by decide)]
           ·intro v w2 F
            exact Ab ⟨_,F.ext,rfl,Fresh.since F hx0⟩
          ·cases Option.some.inj ho
           exact BX rfl _ g8 (Ab ⟨_,.refl _ _,rfl,rfl⟩)
          ·cases Option.some.inj ho
           refine Dn [.int .i64 x] rfl AU Bw F8 (by decide) (by decide) ?_ (Ctx.start w' []) ?_
           ·show Instr.fill _ _ [(0,e'.g 85)]=_
            rw [show e'.g 85 = .int .i64 x from (hg 10 (by decide))]
            kernel_rfl
           ·intro b w2 _ H
            exact Ab ⟨_,H.ext,rfl,b,rfl,H.get at0⟩
          ·cases Option.some.inj ho
           have F9:Fresh w w' 5 1 (e'.g 84) ((((C2 r++esB r i)++CP (u64 id) 8++[by8 e.f,by8 e.t])++E0 [e.cap]++CP (u64 (-e.cost)) 2).map bv):=hg 9 (by decide)
           obtain ⟨a9,c9,h9,R9,-⟩:=Fresh.rdB F9
           obtain ⟨b3,h3,hb3⟩:=hg 11 (by decide)
           refine Am rfl Np (IP a9 (some ⟨b3,0,none⟩) c9 1 _ (((C2 r++esB r i)++CP (u64 id) 8++[by8 e.f,by8 e.t])++E0 [e.cap]++CP (u64 (-e.cost)) 2) [x] _ R9 rfl (by rw [List.length_append,E8,List.length_append,FG,List.length_singleton]; omega) (OT hb3) 1 rfl (by decide) (by decide)) ?_ ?_
           ·show [e'.g 84,e'.g 86]=_
            rw [h9,show e'.g 86 = .slice (some ⟨b3,0,none⟩) 1 1 from h3]
           ·intro v w2 F
            exact Ab ⟨_,F.ext,rfl,Fresh.since F hx0⟩
         ·intro e' w' hds hold hg hx
          have F:Fresh w w' 5 1 (e'.g 87) (((C2 r++esB r i++CP (u64 id) 8++[by8 e.f,by8 e.t])++E0 [e.cap]++CP (u64 (-e.cost)) 2++E0 [x]).map bv):=hg 12 (by decide)
          rw [hfin] at F
          obtain ⟨a,n,c,full,h4,O4,hb4'⟩:=F.ex
          obtain rfl:=OS.num O4
          have H5:Ctx w0 [] w' ([(b7,Bl 92 (Bv e)),(b1,Bl 33 (AJ r q))]++ent a 5 full):=IQ (L:=[(b7,Bl 92 (Bv e)),(b1,Bl 33 (AJ r q))]) H F.ext hb4'
          refine BU rfl _ h4 (Ab ?_)
          exact ⟨rfl,(a,c,full),hds,⟨Dj _ _ _,trivial⟩,H5,O4⟩
        ·rintro ⟨a4,c4,f4⟩ j15 w ⟨H,O⟩; dsimp only at H O; dsimp only
         refine A1 (A1 (Aa (Aq (Ao rfl rfl rfl (by omega) (by omega) ?_))))
         refine Ad rfl rfl (Ab (Aa ?_))
         exact ⟨(i+1,a4,c4,f4),rfl,⟨rfl,rfl,trivial⟩,⟨by omega,H.tail,O⟩,by dsimp only; omega⟩
      ·intro h3
       replace h3:=AF h3
       have hb1:=H.get at1
       have hb7:=H.get at0
       have HG:=H
       obtain ⟨w1,rfl⟩:∃ z,z=w:=⟨_,rfl⟩
       clear H
       have H:=Ctx.start w1 []
       refine CK [([0,1,2],3),([4],5)] (fun z=>Ext [] w1 z) [] B5 (by kernel_rfl) (Ext.drew [] w1) ?_
       refine AR rfl rfl ?_
       refine AM rfl CT rfl (Cb rfl BC rfl (fun _ hx=>(by rw [Ap (hx.to hb7 (by simp))]; rfl)) ?_)
       refine F2 _ rfl CB Cw rfl rfl (fun _ hx=>(C1 (b:=b1) (t:=33) (l:=AJ r q) (hx.to hb1 (by simp)) 0 (AJ r q) rfl)) ?_
       refine B6 ?_
       replace H:=H.drew
       refine Am rfl HR (FM r q _ (by omega)) rfl ?_
       rintro v w ⟨rfl,hx92⟩
       replace H:=H.call hx92
       refine Ab (C4 (H.ext) (AR rfl rfl ?_))
       refine UM rfl rfl rfl (B6 (Ai rfl rfl (Ab (C4 (H.ext) (BW (Ax _ rfl ?_ ?_))))))
       ·intro h4
        replace h4:=AE h4
        replace H:=HG.call H.ext
        have R4:=OS.rdB O fun x hx=>H.blk x (List.mem_cons_of_mem _ (List.mem_cons_of_mem _ hx))
        refine Aq (An rfl rfl (Ah rfl CH rfl (A9 rfl B1 rfl H at0 rfl (Ad rfl rfl ?_))))
        have H0:=H
        replace H:=Ctx.start w []
        refine Dn [.int .i64 e.cap,.int .i64 x] rfl AU Bw F8 (by decide) (by decide) (by kernel_rfl) H ?_
        rintro b98 w2 - H
        have hb98:=H.get at0
        replace H:=H0.call H.ext
        refine Am rfl Np (IP a4 (some ⟨b98,0,none⟩) c4 2 _ (C2 r++esB r i) [e.cap,x] _ (OS.rdB O fun x hx=>H.blk x (List.mem_cons_of_mem _ (List.mem_cons_of_mem _ hx))) rfl (by omega) (WS hb98) 2 rfl (by decide) (by decide)) rfl ?_
        rintro v w3 F
        have hE:(C2 r++esB r i)++E0 [e.cap,x]=C2 r++esB r (i+1):=by { rw [hst]; unfold eB; rw [if_neg (by omega),if_pos h4,Kq,Gv,List.append_assoc] }
        rw [hE] at F
        obtain ⟨a9,n9,c9,f9,rfl,O9,hb9⟩:=F.ex
        obtain rfl:=OS.num O9
        replace H:Ctx w0 [] w3 ([(b7,Bl 92 (Bv e)),(b1,Bl 33 (AJ r q))]++ent a9 5 f9):=IQ (L:=[(b7,Bl 92 (Bv e)),(b1,Bl 33 (AJ r q))]) H F.ext hb9
        refine AB rfl rfl (Ab (A1 (A1 (Aa (Aq (Ao rfl rfl rfl (by omega) (by omega) ?_))))))
        refine Ad rfl rfl (Ab (Aa ?_))
        exact ⟨(i+1,a9,c9,f9),rfl,⟨rfl,rfl,trivial⟩,⟨by omega,H.tail,O9⟩,by dsimp only; omega⟩
       ·intro h4
        replace h4:=AF h4
        replace H:=HG.call H.ext
        refine Aq (An rfl rfl (Ad rfl rfl ?_))
        have H0:=H
        replace H:=Ctx.start w []
        refine Dn [.int .i64 x] rfl AU Bw F8 (by decide) (by decide) (by kernel_rfl) H ?_
        rintro b52 w2 - H
        have hb52:=H.get at0
        replace H:=H0.call H.ext
        refine Am rfl Np (IP a4 (some ⟨b52,0,none⟩) c4 1 _ (C2 r++esB r i) [x] _ (OS.rdB O fun x hx=>H.blk x (List.mem_cons_of_mem _ (List.mem_cons_of_mem _ hx))) rfl (by omega) (OT hb52) 1 rfl (by decide) (by decide)) rfl ?_
        rintro v w3 F
        have hE:(C2 r++esB r i)++E0 [x]=C2 r++esB r (i+1):=by { rw [hst]; unfold eB; rw [if_neg (by omega),if_neg h4,Gv,List.append_assoc] }
        rw [hE] at F
        obtain ⟨a9,n9,c9,f9,rfl,O9,hb9⟩:=F.ex
        obtain rfl:=OS.num O9
        replace H:Ctx w0 [] w3 ([(b7,Bl 92 (Bv e)),(b1,Bl 33 (AJ r q))]++ent a9 5 f9):=IQ (L:=[(b7,Bl 92 (Bv e)),(b1,Bl 33 (AJ r q))]) H F.ext hb9
        refine AB rfl rfl (Ab (A1 (A1 (Aa (Aq (Ao rfl rfl rfl (by omega) (by omega) ?_))))))
        refine Ad rfl rfl (Ab (Aa ?_))
        exact ⟨(i+1,a9,c9,f9),rfl,⟨rfl,rfl,trivial⟩,⟨by omega,H.tail,O9⟩,by dsimp only; omega⟩
     ·intro h2
      replace h2:=AF h2
      obtain rfl:i=r.es.length:=by omega
      have hbs:(C2 r++esB r r.es.length).length≤6000:=by have:=OR r r.es.length; rw [List.length_append,Kr]; omega
      have hpl:0<r.pot.length:=by omega
      have hbl:(G8 r).length≤6200:=by unfold G8; rw [List.length_append,FG]; omega
      have hnat:UInt32.size=4294967296:=rfl
      refine Bh (Aj (Aj (AG (Aa (Af (An rfl rfl (Ah rfl Ex rfl (Ah rfl Ht rfl (A9 rfl BL rfl H at0 rfl (Am rfl Np (IP a4 q.aP c4 q.cP _ (C2 r++esB r r.es.length) r.pot _ (OS.rdB O fun x hx=>H.blk x (List.mem_cons_of_mem _ hx)) rfl (by omega) (RP.ext0 H.ext) _ rfl (by omega) hpl) rfl ?_))))))))))
      rintro v w3 F
      rw [show C2 r++esB r r.es.length++E0 r.pot=G8 r from rfl] at F
      obtain ⟨a4,n4,c4,f4,rfl,O,hb4⟩:=F.ex
      obtain rfl:=OS.num O
      replace H:Ctx w0 [] w3 ([(b1,Bl 33 (AJ r q))]++ent a4 5 f4):=IQ (L:=[(b1,Bl 33 (AJ r q))]) H F.ext hb4
      refine AB rfl rfl (Ab (Aa (Af (An rfl rfl (Am rfl YP (WJ a4 c4 _ (G8 r) _ (OS.rdB O fun x hx=>H.blk x (List.mem_cons_of_mem _ hx)) rfl (by omega)) rfl ?_)))))
      rintro v w ⟨rfl,rfl⟩
      refine Ae rfl rfl (Ab (Aa (Au (Af (Ad rfl rfl (Ab (Aa (Aw ?_))))))))
      obtain ⟨s,hs⟩:∃ s,s=(sumW (G8 r)).toNat:=⟨_,rfl⟩
      have hs32:s<4294967296:=by rw [hs]; exact JN _
      rw [← hs]
      refine Bm 331982480392570541499168609049510416 (α:=Nat × Option Addr × Nat × List Value) (fun z=>[(108,.int .i64 (z.1:Int)),(9,.int .u32 ((s / 2 ^ (8*z.1):Nat):Int)),(4,.slice z.2.1 ((G8 r).length+z.1) z.2.2.1)]) (fun z w'=>z.1≤4∧Ctx w0 [] w' ((b1,Bl 33 (AJ r q))::ent z.2.1 5 z.2.2.2)∧OS z.2.1 ((G8 r).length+z.1) z.2.2.1 1 z.2.2.2 ((G8 r++leB s z.1).map bv)) (fun z=>4 - z.1) (0,a4,c4,f4) rfl ?_ ?_ ?_
      ·exact ⟨rfl,by simp; rfl,rfl,trivial⟩
      ·exact ⟨Nat.zero_le _,H,by simpa [leB] using O⟩
      ·clear H O
       rintro ⟨k,a4,c4,f4⟩ j w ⟨hk,H,O⟩; dsimp only at hk H O; dsimp only
       refine Af (AO rfl rfl rfl (Ab (Aa (Au (Ax _ rfl ?_ ?_)))))
       ·intro h5
        replace h5:=AE h5
        refine Ay (Aa (Au (Aw (Af (An rfl rfl (Ad rfl rfl (K5 rfl rfl V7 Jn ?_)))))))
        rw [Kp]
        refine Dd _ (.int _ _) rfl Dt Ij MG rfl (by decide) (by decide) rfl rfl rfl H ?_
        rintro b113 w - H
        refine De (L:=[(b1,Bl 33 (AJ r q))]) rfl Dt Dt Ij Vf MG rfl (by decide) rfl rfl H O rfl (by simp [B0]) (by omega) ?_
        rintro a9 c9 f9 w H O
        refine AB rfl rfl (Ab (Aa (Aq (Ad rfl rfl (LB (n:=8) rfl rfl rfl (by omega) ?_)))))
        refine Ae rfl rfl (Ab (A1 (Aa (Aq (Ao rfl rfl rfl (by omega) (by omega) ?_)))))
        refine Ad rfl rfl (Ab (Aa ?_))
        refine ⟨(k+1,a9,c9,f9),rfl,⟨rfl,congrArg (Value.int .u32) (by rw [Nat.div_div_eq_div_mul,← Nat.pow_add,Nat.mul_succ]),rfl,trivial⟩,⟨by omega,H,?_⟩,by dsimp only; omega⟩
        dsimp only
        have O':OS a9 ((G8 r).length+(k+1)) c9 1 f9 ((G8 r++leB s k).map bv++[UInt8.ofNat (s / 2 ^ (8*k))].map bv):=O
        rw [← List.map_append,List.append_assoc,← WQ] at O'
        exact O'
       ·intro h5
        replace h5:=AF h5
        obtain rfl:k=4:=by omega
        refine Bh (Aj (Aj (AG (Aa (Af (An rfl rfl (AB rfl rfl (Ae rfl rfl (Ab (Aa (A5 (DI (v1:=(.slice _ _ _)) (v2:=(.int _ _)) rfl rfl rfl rfl ?_))))))))))))
        refine ⟨fun _=>⟨_,rfl,?_⟩,fun h=>(by rw [h1] at h; cases h)⟩
        have hB:HM r=G8 r++leB s 4:=by unfold HM; rw [hs]
        rw [hB]
        exact Ctx.fresh (L:=[(b1,Bl 33 (AJ r q))]) H O
end Go.Proofs.YtapphbmlkdhnmaaGreat

/- The rooms and the dues of a right round. -/
namespace Go.Proofs.YtapphbmlkdhnmaaGreat
open Go.GV
attribute [local irreducible] A4 W Wq Wt

/-- What lies behind the dues. -/
theorem Y6 {r:Rnd} (W:WR r) {i:Nat} {e:Ed} (hi:r.ids.length≤i) (he:r.es[i]? = some e):r.cmp=false∧(r.es.length:Int)=r.ids.length+2*(r.N - 1) ∧
  ((∃ b:Nat,i=r.ids.length+2*b∧(b:Int)<r.N - 1∧e.f=r.N - 1∧e.t=b∧e.cost=0)∨(∃ b:Nat,i=r.ids.length+2*b+1∧(b:Int)<r.N - 1∧e.f=b∧e.t=r.N - 1∧e.cap=4503599627370496∧e.cost=0)):=by
 have hr:=W.rest
 have hl:=CA he
 have hde:=W.de
 unfold GL at hr
 by_cases hc:r.cmp=true
 ·rw [if_pos hc,decide_eq_true_eq,List.length_drop] at hr
  omega
 ·rw [if_neg hc,Bool.and_eq_true,decide_eq_true_eq,List.length_drop,List.all_eq_true] at hr
  obtain ⟨h1,h2⟩:=hr
  have hN:=W.N1
  refine ⟨by simpa using hc,by omega,?_⟩
  obtain ⟨b,hb⟩:∃ b,b=(i - r.ids.length) / 2:=⟨_,rfl⟩
  have h3:=h2 b (List.mem_range.2 (by omega))
  unfold Fs at h3
  rw [Bool.and_eq_true,decide_eq_true_eq,decide_eq_true_eq] at h3
  rcases Nat.mod_two_eq_zero_or_one (i - r.ids.length) with h4 | h4
  ·left
   have hib:i=r.ids.length+2*b:=by omega
   have h5:(r.es.drop r.ids.length).getD (2*b) e0=e:=Bi (by rw [List.getElem?_drop,← hib]; exact he)
   rw [h5] at h3
   obtain ⟨⟨g1,g2⟩,g3⟩:=To.1 h3.1
   exact ⟨b,hib,by omega,g1,g2,g3⟩
  ·right
   have hib:i=r.ids.length+2*b+1:=by omega
   have h5:(r.es.drop r.ids.length).getD (2*b+1) e0=e:=Bi (by rw [List.getElem?_drop,← Nat.add_assoc,← hib]; exact he)
   rw [h5] at h3
   have h6:=h3.2
   subst h6
   exact ⟨b,hib,by omega,rfl,rfl,rfl,rfl⟩
def Sh (r:Rnd) (i:Nat):Du:=⟨r.ids.getD i 0,(r.es.getD i e0).f,(r.es.getD i e0).t,(r.es.getD i e0).cap,-(r.es.getD i e0).cost,0,false⟩
def KP (r:Rnd) (k:Nat):List Du:=(List.range k).map (Sh r)
def D3 (r:Rnd) (i b:Nat):Int:=if r.ids.length+2*b<i then (r.es.getD (r.ids.length+2*b) e0).cap else 0
def Ks (r:Rnd):List Int:=tab (D3 r r.es.length) (r.N - 1).toNat
def JP (r:Rnd):List Int × List Du × Int:=if Bx r=true then (Ks r,KP r r.ids.length,0) else ([],[],1)
theorem Kt (r:Rnd) (k:Nat):(KP r k).length=k:=by unfold KP; rw [List.length_map,List.length_range]
theorem Si {r:Rnd} {k:Nat} {x:Int} {e:Ed} (hx:r.ids[k]? = some x) (he:r.es[k]? = some e):KP r (k+1)=KP r k++[⟨x,e.f,e.t,e.cap,-e.cost,0,false⟩]:=by
 unfold KP
 rw [List.range_succ,List.map_append]
 show _++[Sh r k]=_
 unfold Sh
 rw [Bi hx,Bi he]
theorem WT {r:Rnd} {i b:Nat} (h:i=r.ids.length+2*b+1) (q:Nat):D3 r (i+1) q=D3 r i q:=by
 unfold D3
 by_cases h1:r.ids.length+2*q<i
 ·rw [if_pos h1,if_pos (by omega)]
 ·rw [if_neg h1,if_neg (by omega)]
theorem U3 {r:Rnd} {i b:Nat} {e:Ed} (h:i=r.ids.length+2*b) (he:r.es[i]? = some e):D3 r (i+1) b=e.cap∧∀ q,q≠b→D3 r (i+1) q=D3 r i q:=by
 refine ⟨?_,fun q hq=>?_⟩
 ·unfold D3
  rw [if_pos (by omega),Bi (by rw [← h]; exact he)]
 ·unfold D3
  by_cases h1:r.ids.length+2*q<i
  ·rw [if_pos h1,if_pos (by omega)]
  ·rw [if_neg h1,if_neg (by omega)]
def OV (w:World) (r:Rnd) (v:Value) (w':World):Prop :=
 ∃ vR vD,v = .tuple #[vR,vD,.int .i64 (JP r).2.2]∧Sl w w' vR 1 I1 (JP r).1∧Sl w w' vD 7 DL (JP r).2.1∧Ext [] w w'
theorem Sl.nil {α:Type} {w w':World} {s:Nat} {enc:α→List Value}:Sl w w' (.slice none 0 0) s enc []:=⟨none,0,rfl,Nat.le_refl _,Rd.nil,fun h=>absurd rfl h⟩
set_option maxRecDepth 20000 in
set_option maxHeartbeats 4000000 in
theorem WV (r:Rnd) (q:RSl) (w:World) (RA:RAt w r q) (hEc:r.es.length≤q.cE) (hr:RBnd r):Ret Tryz.prog 37 #[.agg (AJ r q).toArray] w (OV w r):=by
 obtain ⟨w0,rfl⟩:∃ w0,w0=w:=⟨_,rfl⟩
 have H:=Ctx.start w0 []
 obtain ⟨wr,hwr⟩:∃ wr,wr=Bx r:=⟨_,rfl⟩
 refine A2 (fn:=Tryz.f37) Tryz.func37 rfl [.agg (AJ r q).toArray] rfl (by kernel_rfl) ?_
 refine Af (Bu rfl (AJ r q) (.agg _) rfl rfl H ?_)
 rintro b1 w - H
 refine AB rfl rfl (AB rfl rfl (Ae rfl rfl (Ab (Aa (Au (Af (Bf rfl CB Cw rfl H at0 rfl (Am rfl LQ (Ft r q _ (RA.ext0 H.ext) hEc hr) rfl ?_))))))))
 rintro v w ⟨rfl,hx8⟩
 replace H:=H.call hx8
 rw [← hwr]
 refine Bs rfl rfl (Ab (Aa (Ax _ rfl ?_ ?_)))
 ·intro h1
  replace h1:=Bp h1
  refine Af (AB rfl rfl (AB rfl rfl (Ae rfl rfl (Ab (Aa (A5 (Ak (DB (v1:=(.slice _ _ _)) (v2:=(.slice _ _ _)) (v3:=(.int _ _)) rfl rfl rfl rfl rfl ?_))))))))
  have h1':Bx r=false:=by rw [← hwr]; simpa using h1
  have hP:JP r=([],[],1):=by unfold JP; rw [if_neg (by rw [h1']; decide)]
  unfold OV
  rw [hP]
  exact ⟨_,_,rfl,Sl.nil,Sl.nil,H.ext⟩
 ·intro h1
  replace h1:=Bq h1
  have h1':Bx r=true:=by rw [← hwr]; simpa using h1
  have WW:=G5 h1'
  have hN1:=WW.N1
  have hN17:=WW.N17
  have hde:=WW.de
  have hd64:=WW.d64
  have he200:=WW.e200
  have hP:JP r=(Ks r,KP r r.ids.length,0):=by unfold JP; rw [if_pos h1']
  obtain ⟨hh,hhN⟩:∃ hh:Nat,r.N - 1=hh:=⟨(r.N - 1).toNat,by omega⟩
  have RI:=RA.I
  have RE:=RA.E
  refine Ay (Aa (Af (Bf rfl CB Cw rfl H at0 rfl (Am rfl HR (FM r q _ (by omega)) rfl ?_))))
  rintro v w ⟨rfl,hx11⟩
  replace H:=H.call hx11
  rw [hhN]
  refine Fu rfl AU Bw Kg F8 rfl rfl (by omega) (by omega) (by omega) (by omega) H ?_
  rintro b12 w - H
  rw [Int.toNat_natCast,DP] at H
  rw [Int.toNat_natCast]
  refine AB rfl rfl (Ab (Aa (Au (Af (Ah rfl CG rfl (Ah rfl BO rfl (A9 rfl CF rfl H at1 rfl (Bc rfl BT rfl (Ad rfl rfl (Ab (Aa ?_)))))))))))
  refine Aw ?_
  have hz:(fun _:Nat=>Value.int .i64 0)=fun q => .int .i64 (D3 r 0 q):=by
   funext q
   unfold D3
   rw [if_neg (by omega)]
  rw [hz] at H
  refine Bm 576460752303292520 (α:=LSt) (fun t=>[(17,.int .i64 (t.i:Int)),(3,.slice t.a (min t.i r.ids.length) t.c)]) (fun t w'=>t.i≤r.es.length∧OS t.a (min t.i r.ids.length) t.c 7 t.full ((KP r (min t.i r.ids.length)).flatMap DL)∧Ctx w0 [] w' ([(b12,Bl 2 (B4 (D3 r t.i) hh)),(b1,Bl 33 (AJ r q))]++ent t.a 62 t.full)) (fun t=>r.es.length - t.i) ⟨0,none,0,[]⟩ rfl ?_ ?_ ?_
  ·exact ⟨rfl,by dsimp only; rw [Nat.zero_min]; rfl,trivial⟩
  ·exact ⟨Nat.zero_le _,by dsimp only; rw [Nat.zero_min]; exact OS.nil,H⟩
  ·clear H hz
   rintro ⟨i,aD,cD,fD⟩ jj w ⟨hi,O,H⟩; dsimp only at hi O H; dsimp only
   refine Af (AO rfl rfl rfl (Ab (Aa (Au (Ax _ rfl ?_ ?_)))))
   ·intro h2
    replace h2:=AE h2
    obtain ⟨e,he⟩:=AH (l:=r.es) (i:=i) (by omega)
    have hE1:=CM ((BM (BA WW.wi).2.1).2.2.2.1 e (List.mem_of_getElem? he))
    refine Ay (Aa (Au (Aw (Af (Ad rfl rfl (Ba RE rfl BT B7 rfl rfl (by omega) (by omega) (by rfl) ?_))))))
    refine Ce _ rfl Ec B7 rfl rfl (((RE.ext0 H.ext).row he rfl)) ?_
    refine Bn rfl Dq H ?_
    rintro b6 w - H
    refine Ae rfl rfl (BG rfl B7 rfl rfl rfl (by exact CN _) H at0 rfl ?_)
    rintro w H
    refine Ab (Aa (Aw ?_))
    replace H:Ctx w0 [] _ ([(b6,Bl 92 (Bv e)),(b12,Bl 2 (B4 (D3 r i) hh)),(b1,Bl 33 (AJ r q))]++ent aD 62 fD):=H
    refine Af (Ad rfl rfl (Ah rfl Ew rfl (A9 rfl EH rfl H at2 rfl (Bc rfl Bb rfl (AO rfl rfl rfl (Ai rfl rfl (Ab (Aa (Ax _ rfl ?_ ?_)))))))))
    ·intro h3
     replace h3:=AE h3
     have h3':i<r.ids.length:=by omega
     obtain ⟨x,hxx⟩:=AH h3'
     rw [Nat.min_eq_left (Nat.le_of_lt h3')] at O ⊢
     refine Fc [([0,1,2,3,4,5,6,7,8,9,10,11,12,13,14,15],16),([],17),([],18)] (fun z=>z.heap[b6]? = some (Bl 92 (Bv e))∧z.heap[b1]? = some (Bl 33 (AJ r q))∧Rd z q.aI 1 U1 r.ids) [] B5 (by kernel_rfl) (⟨H.drew.get at0,H.drew.get at2,RI.ext0 H.drew.ext⟩) ?_
     refine AR rfl rfl ?_
     refine Bo rfl rfl (AM rfl Ew rfl (Cb rfl EH rfl (fun _ hx=>(by rw [Ap hx.2.1]; rfl)) ?_))
     refine AP rfl rfl (CI RI rfl Bb AZ rfl rfl (by omega) (by omega) (by rfl) ?_)
     refine Cb rfl BJ rfl (fun _ hx=>(hx.2.2.fld hxx rfl (j:=0) rfl)) ?_
     refine AM rfl CT rfl (Cb rfl BC rfl (fun _ hx=>(by rw [Ap hx.1]; rfl)) ?_)
     refine AM rfl Di rfl (Cb rfl BC rfl (fun _ hx=>(by rw [Ap hx.1]; rfl)) ?_)
     refine AM rfl CH rfl (Cb rfl B1 rfl (fun _ hx=>(by rw [Ap hx.1]; rfl)) ?_)
     refine AM rfl Da rfl (Cb rfl B1 rfl (fun _ hx=>(by rw [Ap hx.1]; rfl)) ?_)
     refine Nc rfl rfl (by omega) (by omega) ?_
     refine LI (DL ⟨x,e.f,e.t,e.cap,-e.cost,0,false⟩) rfl YS Gg (by kernel_rfl) ?_
     refine B6 ?_
     replace H:=H.drew
     refine Dd _ (.agg _) rfl D8 Dp Gg rfl (by decide) (by decide) rfl rfl rfl H ?_
     rintro b44 w - H
     refine Ab (C4 (⟨H.get at1,H.get at3,RI.ext0 H.ext⟩) (AR rfl rfl ?_))
     refine B6 (De (L:=[_,_,_]) rfl D8 D8 Dp Vg Gg rfl (by decide) rfl rfl H O rfl (Fj _) (by omega) ?_)
     rintro aD' cD' fD' w H O
     refine Ab (C4 (⟨H.get at0,H.get at2,RI.ext0 H.ext⟩) (AR rfl rfl ?_))
     refine B6 (AB rfl rfl (Ab (C4 (⟨H.get at0,H.get at2,RI.ext0 H.ext⟩) (BW (A1 (A1 (Aa (Aq (Ao rfl rfl rfl (by omega) (by omega) ?_)))))))))
     refine Ad rfl rfl (Ab (Aa ?_))
     refine ⟨⟨i+1,aD',cD',fD'⟩,rfl,⟨rfl,by dsimp only; rw [Nat.min_eq_left (show i+1≤r.ids.length by omega)]; rfl,trivial⟩,⟨by dsimp only; omega,?_,?_⟩,by dsimp only; omega⟩
     ·dsimp only
      rw [Nat.min_eq_left (show i+1≤r.ids.length by omega),Si hxx he,List.flatMap_append]
      exact (by simpa using O)
     ·dsimp only
      have hsm:B4 (D3 r (i+1)) hh=B4 (D3 r i) hh:=List.map_congr_left fun q _=>by
       unfold D3
       rw [if_neg (by omega),if_neg (by omega)]
      rw [hsm]
      exact H.tail
    ·intro h3
     replace h3:=AF h3
     have h3':r.ids.length≤i:=by omega
     rw [Nat.min_eq_right h3'] at O ⊢
     have hm1:min (i+1) r.ids.length=r.ids.length:=Nat.min_eq_right (by omega)
     have HG:=H
     have hb6:=HG.get at0
     have hb1:=HG.get at2
     obtain ⟨w1,rfl⟩:∃ z,z=w:=⟨_,rfl⟩
     have H:=Ctx.start w1 []
     rcases (Y6 WW h3' he).2.2 with ⟨b,hib,hbh,hf,ht,-⟩ | ⟨b,hib,hbh,hf,-⟩
     ·skip
      obtain ⟨hr1,hr2⟩:=U3 hib he
      refine CK [([0,1,2],3),([4],5)] (fun z=>Ext [] w1 z) [] B5 (by kernel_rfl) (Ext.drew [] w1) ?_
      refine AR rfl rfl ?_
      refine AM rfl CT rfl (Cb rfl BC rfl (fun _ hx=>(by rw [Ap (hx.to hb6 (by simp))]; rfl)) ?_)
      refine F2 _ rfl CB Cw rfl rfl (fun _ hx=>(C1 (b:=b1) (t:=33) (l:=AJ r q) (hx.to hb1 (by simp)) 0 (AJ r q) rfl)) ?_
      refine B6 ?_
      replace H:=H.drew
      refine Am rfl HR (FM r q _ (by omega)) rfl ?_
      rintro v w ⟨rfl,hx50⟩
      replace H:=H.call hx50
      refine Ab (C4 (H.ext) (AR rfl rfl ?_))
      refine UM rfl rfl rfl ?_
      rw [show decide (e.f=r.N - 1)=true from decide_eq_true hf]
      refine B6 (Ai rfl rfl (Ab (C4 (H.ext) (BW (CL rfl (Aq (An rfl rfl (Ah rfl Di rfl (AX rfl BC rfl ((by rw [Ap (H.ext.to hb6 (by simp))]; rfl)) ?_)))))))))
      refine Ah rfl CH rfl (AX rfl B1 rfl ((by rw [Ap (H.ext.to hb6 (by simp))]; rfl)) ?_)
      replace H:=HG.call H.ext
      refine AV rfl AU Bw rfl rfl (by omega) (by omega) ?_
      refine BK b (fun q => .int .i64 (D3 r (i+1) q)) (.int _ _) rfl Bw rfl rfl rfl H at1 (by rw [ht]; simp) (by omega) (by rw [hr1]) (fun q _ hq=>by rw [hr2 q hq]) ?_
      rintro w H
      refine Ab (A1 (A1 (Aa (Aq (Ao rfl rfl rfl (by omega) (by omega) ?_)))))
      refine Ad rfl rfl (Ab (Aa ?_))
      exact ⟨⟨i+1,aD,cD,fD⟩,rfl,⟨rfl,by dsimp only; rw [hm1]; rfl,trivial⟩,⟨by dsimp only; omega,by dsimp only; rw [hm1]; exact O,Ctx.tail H⟩,by dsimp only; omega⟩
     ·skip
      refine CK [([0,1,2],3),([4],5)] (fun z=>Ext [] w1 z) [] B5 (by kernel_rfl) (Ext.drew [] w1) ?_
      refine AR rfl rfl ?_
      refine AM rfl CT rfl (Cb rfl BC rfl (fun _ hx=>(by rw [Ap (hx.to hb6 (by simp))]; rfl)) ?_)
      refine F2 _ rfl CB Cw rfl rfl (fun _ hx=>(C1 (b:=b1) (t:=33) (l:=AJ r q) (hx.to hb1 (by simp)) 0 (AJ r q) rfl)) ?_
      refine B6 ?_
      replace H:=H.drew
      refine Am rfl HR (FM r q _ (by omega)) rfl ?_
      rintro v w ⟨rfl,hx50⟩
      replace H:=H.call hx50
      refine Ab (C4 (H.ext) (AR rfl rfl ?_))
      refine UM rfl rfl rfl ?_
      rw [show decide (e.f=r.N - 1)=false from decide_eq_false (by omega)]
      refine B6 (Ai rfl rfl (Ab (C4 (H.ext) (BW (FR rfl (Ay (A1 (A1 (Aa (Aq (Ao rfl rfl rfl (by omega) (by omega) ?_)))))))))))
      refine Ad rfl rfl (Ab (Aa ?_))
      refine ⟨⟨i+1,aD,cD,fD⟩,rfl,⟨rfl,by dsimp only; rw [hm1]; rfl,trivial⟩,⟨by dsimp only; omega,by dsimp only; rw [hm1]; exact O,?_⟩,by dsimp only; omega⟩
      dsimp only
      have hsm:B4 (D3 r (i+1)) hh=B4 (D3 r i) hh:=List.map_congr_left fun q _=>by rw [WT hib]
      rw [hsm]
      exact Ctx.tail (HG.call H.ext)
   ·intro h2
    replace h2:=AF h2
    obtain rfl:i=r.es.length:=by omega
    rw [Nat.min_eq_right hde] at O ⊢
    refine Bh (Aj (Aj (AG (Aa (Af (An rfl rfl (An rfl rfl (AB rfl rfl (AB rfl rfl (Ae rfl rfl (Ab (Aa (A5 (DB (v1:=(.slice _ _ _)) (v2:=(.slice _ _ _)) (v3:=(.int _ _)) rfl rfl rfl rfl rfl ?_))))))))))))))
    unfold OV
    rw [hP]
    refine ⟨_,_,rfl,⟨some ⟨b12,0,none⟩,hh,?_,?_,?_,fun _=>?_⟩,⟨aD,cD,by dsimp only; rw [Kt],by dsimp only; rw [Kt]; exact O.le,OS.rd O (fun x hx=>H.blk x (List.mem_append_right _ hx)) (fun _ _=>rfl) (by decide),fun hne=>?_⟩,H.ext⟩
    ·show Value.slice (some ⟨b12,0,none⟩) hh hh=_
     unfold Ks
     rw [CO,hhN,Int.toNat_natCast]
    ·show (Ks r).length≤hh
     unfold Ks
     rw [CO,hhN,Int.toNat_natCast]; exact Nat.le_refl _
    ·unfold Ks
     rw [hhN,Int.toNat_natCast]
     exact Cj (H.get at0)
    ·exact (H.own _ (List.mem_append_left _ (List.mem_cons_self ..))).elim (fun h=>by cases h) id
    ·obtain ⟨p,rfl⟩:=O.form (by have:=List.length_pos_iff.2 hne; dsimp only at this; rw [Kt] at this; exact this)
     exact (H.own (p,Bl 62 fD) (List.mem_append_right _ (List.mem_singleton.2 rfl))).elim (fun h=>by cases h) id
end Go.Proofs.YtapphbmlkdhnmaaGreat

/- The reference's bytes of a round: the same. -/
namespace Go.Proofs.YtapphbmlkdhnmaaGreat
open Go.GV
attribute [local irreducible] A4 W Wq Wt

end Go.Proofs.YtapphbmlkdhnmaaGreat

/- What takes numbers off bytes, one behind the other: the program's two functions, and the reference's reader. -/
namespace Go.Proofs.YtapphbmlkdhnmaaGreat
open Go.GV
attribute [local irreducible] A4 W Wq Wt

/-- A number of k bytes, and what stands behind it; once one is missing, nothing more is read. -/
def nx (l:List UInt8) (k:Nat) (s:Nat × Bool):Nat × (Nat × Bool) :=
 if s.2=true then (0,s) else if s.1+k≤l.length then (numN ((l.drop s.1).take k),(s.1+k,false)) else (0,(s.1,true))
theorem Ab9 {l:List UInt8} {k p:Nat} (h:p+k≤l.length):nx l k (p,false)=(numN ((l.drop p).take k),(p+k,false)):=by
 unfold nx
 rw [if_neg Bool.false_ne_true,if_pos h]
theorem Aca {l:List UInt8} {k p:Nat} (h:¬ p+k≤l.length):nx l k (p,false)=(0,(p,true)):=by
 unfold nx
 rw [if_neg Bool.false_ne_true,if_neg h]
theorem G9 {l:List UInt8} {k:Nat} {s:Nat × Bool} (h:s.1≤l.length):(nx l k s).2.1≤l.length:=by
 unfold nx
 split
 ·exact h
 ·split
  ·assumption
  ·exact h
theorem Zg (l:List UInt8) {k:Nat} (hk:k≤8) (s:Nat × Bool):(nx l k s).1<18446744073709551616:=by
 unfold nx
 split
 ·show (0:Nat)<_
  decide
 ·split
  ·have h1:=JO ((l.drop s.1).take k)
   have h2:((l.drop s.1).take k).length≤8:=by rw [List.length_take]; omega
   have h3:256 ^ ((l.drop s.1).take k).length≤256 ^ 8:=Nat.pow_le_pow_right (by decide) h2
   show numN _<_
   have h4:(256:Nat) ^ 8=18446744073709551616:=by decide
   omega
  ·show (0:Nat)<_
   decide
abbrev NJ (k:Nat):Prop:=k=1∨k=2∨k=4∨k=8
theorem Q2 {l:List UInt8} {p k:Nat} (hk:NJ k) (h:p+k≤l.length):Iz l (p:Int) (k:Int) = .tuple #[.int .u64 (numN ((l.drop p).take k):Int),.int .i64 ((p:Int)+(k:Int)),.int .i64 0]:=by
 have hs:Hg (k:Int)=true:=by rcases hk with rfl | rfl | rfl | rfl <;> rfl
 have he:G7 l (p:Int) (k:Int)=0:=by
  unfold G7
  rw [hs,decide_eq_true (show (0:Int)≤(p:Int) by omega),decide_eq_true (show (p:Int)≤(l.length:Int) by omega),decide_eq_true (show (k:Int)≤(l.length:Int) - (p:Int) by omega)]
  rfl
 unfold Iz
 rw [he]
 rfl
theorem Q3 {l:List UInt8} {p k:Nat} (hk:NJ k) (hp:p≤l.length) (h:¬ p+k≤l.length):Iz l (p:Int) (k:Int) = .tuple #[.int .u64 0,.int .i64 0,.int .i64 5]:=by
 have hs:Hg (k:Int)=true:=by rcases hk with rfl | rfl | rfl | rfl <;> rfl
 have he:G7 l (p:Int) (k:Int)=5:=by
  unfold G7
  rw [hs,decide_eq_true (show (0:Int)≤(p:Int) by omega),decide_eq_true (show (p:Int)≤(l.length:Int) by omega),decide_eq_false (show ¬ (k:Int)≤(l.length:Int) - (p:Int) by omega)]
  rfl
 unfold Iz
 rw [he]
 rfl
/-- What a take answers, whatever it is. -/
theorem WX {l:List UInt8} {p k:Nat} (hk:NJ k) (hp:p≤l.length):∃ (n:Nat) (o e:Int),Iz l (p:Int) (k:Int) = .tuple #[.int .u64 (n:Int),.int .i64 o,.int .i64 e]:=by
 by_cases h:p+k≤l.length
 ·exact ⟨_,_,_,Q2 hk h⟩
 ·exact ⟨0,0,5,Q3 hk hp h⟩
/-- Where the bytes lie, and that they stay. -/
structure TkB (w:World) (S:List Nat) (a:Option Addr) (c:Nat) (l:List UInt8):Prop where
 R:Rd w a 1 B8 l
 off:l≠[]→(adr a).block∉S
 hc:l.length≤c
 hm:l.length≤100000
theorem TkB.at {w w':World} {S:List Nat} {a:Option Addr} {c:Nat} {l:List UInt8} (B:TkB w S a c l) (h:Ext S w w'):Rd w' a 1 B8 l:=by
 by_cases hl:l=[]
 ·subst hl; exact Rd.nil
 ·exact B.R.ext h (B.off hl)
theorem TkB.ext {w w':World} {S:List Nat} {a:Option Addr} {c:Nat} {l:List UInt8} (B:TkB w S a c l) (h:Ext S w w'):TkB w' S a c l:=⟨B.at h,B.off,B.hc,B.hm⟩
abbrev tkL (ba bd:Nat) (s:Nat × Bool):List (Nat × Obj):=[(ba,Bl 3 [.int .i64 (s.1:Int)]),(bd,Bl 4 [.bool s.2])]
set_option maxHeartbeats 1000000 in
theorem WY (bb ba bd:Nat) (a:Option Addr) (c:Nat) (l:List UInt8) (s:Nat × Bool) (k:Nat) (w:World) (B:TkB w [ba,bd] a c l) (hb:w.heap[bb]? = some (Bl 69 [.slice a l.length c])) (nb:bb∉[ba,bd]) (H:Ctx w [ba,bd] w (tkL ba bd s)) (hs:s.1≤l.length) (hk:NJ k) :
  Ret Tryz.prog 144 #[.int .i64 (k:Int),ptr bb,ptr ba,ptr bd] w fun v w'=>v = .int .u64 ((nx l k s).1:Int)∧Ctx w [ba,bd] w' (tkL ba bd (nx l k s).2):=by
 obtain ⟨w0,rfl⟩:∃ w0,w0=w:=⟨_,rfl⟩
 obtain ⟨p,bad⟩:=s
 dsimp only at hs
 have hm:=B.hm
 cases bad with
 | true =>
  obtain ⟨n,o,e,hT⟩:=WX (k:=k) hk hs
  refine A2 (fn:=Tryz.f144) Tryz.func144 rfl [.int .i64 (k:Int),ptr bb,ptr ba,ptr bd] rfl (by kernel_rfl) ?_
  refine Af (Ae rfl rfl (Ab (Aa (Af (AX rfl Ve rfl ((by rw [Ap (H.ext.to hb nb)]; rfl)) ?_)))))
  refine A9 rfl BC rfl H at0 rfl (Ad rfl rfl (Am rfl QW (Mx a c _ l (p:Int) (k:Int) _ (B.at H.ext) rfl (by omega) B.hc) rfl ?_))
  rintro v w ⟨rfl,hx13⟩
  replace H:=H.call hx13
  rw [hT]
  refine BV rfl rfl (A6 rfl rfl rfl (A6 rfl rfl rfl (A6 rfl rfl rfl (Ae rfl rfl (Ae rfl rfl (Ae rfl rfl (Ab (Aa (Au (Af ?_))))))))))
  refine A9 rfl Hs rfl H at1 rfl (Al rfl rfl (Ag rfl (Ag rfl (Av rfl rfl (.bool _) rfl (BF (.bool _) rfl MF rfl rfl rfl H at1 (by (simp; done)) ?_)))))
  rintro w H
  refine Ab (Aa (Af (A9 rfl Hs rfl H at1 rfl (Ab (Aa (CL rfl (Af (Ae rfl rfl (Ab (Aa (A5 (Ak (A8 (v:=(.int _ _)) rfl rfl rfl ?_)))))))))))))
  exact ⟨rfl,H⟩
 | false =>
  by_cases hf:p+k≤l.length
  ·have hT:=Q2 hk hf
   rw [Ab9 hf]
   refine A2 (fn:=Tryz.f144) Tryz.func144 rfl [.int .i64 (k:Int),ptr bb,ptr ba,ptr bd] rfl (by kernel_rfl) ?_
   refine Af (Ae rfl rfl (Ab (Aa (Af (AX rfl Ve rfl ((by rw [Ap (H.ext.to hb nb)]; rfl)) ?_)))))
   refine A9 rfl BC rfl H at0 rfl (Ad rfl rfl (Am rfl QW (Mx a c _ l (p:Int) (k:Int) _ (B.at H.ext) rfl (by omega) B.hc) rfl ?_))
   rintro v w ⟨rfl,hx13⟩
   replace H:=H.call hx13
   rw [hT]
   refine BV rfl rfl (A6 rfl rfl rfl (A6 rfl rfl rfl (A6 rfl rfl rfl (Ae rfl rfl (Ae rfl rfl (Ae rfl rfl (Ab (Aa (Au (Af ?_))))))))))
   refine A9 rfl Hs rfl H at1 rfl (Al rfl rfl (Ad rfl rfl (D6 rfl rfl rfl (A7 rfl rfl (.bool _) rfl (BF (.bool _) rfl MF rfl rfl rfl H at1 (by (simp; done)) ?_)))))
   rintro w H
   refine Ab (Aa (Af (A9 rfl Hs rfl H at1 rfl (Ab (Aa (Ax _ rfl ?_ ?_))))))
   ·intro h1
    exact absurd h1 (by decide)
   ·intro h1
    refine Ay (Aa (Af (Ad rfl rfl (BF (.int _ _) rfl EG rfl rfl rfl H at0 (by (simp; done)) ?_))))
    rintro w H
    refine Ab (Aa (Af (Ad rfl rfl (Ae rfl rfl (Ab (Aa (A5 (A8 (v:=(.int _ _)) rfl rfl rfl ?_))))))))
    exact ⟨rfl,H⟩
  ·have hT:=Q3 hk hs hf
   rw [Aca hf]
   refine A2 (fn:=Tryz.f144) Tryz.func144 rfl [.int .i64 (k:Int),ptr bb,ptr ba,ptr bd] rfl (by kernel_rfl) ?_
   refine Af (Ae rfl rfl (Ab (Aa (Af (AX rfl Ve rfl ((by rw [Ap (H.ext.to hb nb)]; rfl)) ?_)))))
   refine A9 rfl BC rfl H at0 rfl (Ad rfl rfl (Am rfl QW (Mx a c _ l (p:Int) (k:Int) _ (B.at H.ext) rfl (by omega) B.hc) rfl ?_))
   rintro v w ⟨rfl,hx13⟩
   replace H:=H.call hx13
   rw [hT]
   refine BV rfl rfl (A6 rfl rfl rfl (A6 rfl rfl rfl (A6 rfl rfl rfl (Ae rfl rfl (Ae rfl rfl (Ae rfl rfl (Ab (Aa (Au (Af ?_))))))))))
   refine A9 rfl Hs rfl H at1 rfl (Al rfl rfl (Ad rfl rfl (D6 rfl rfl rfl (A7 rfl rfl (.bool _) rfl (BF (.bool _) rfl MF rfl rfl rfl H at1 (by (simp; done)) ?_)))))
   rintro w H
   refine Ab (Aa (Af (A9 rfl Hs rfl H at1 rfl (Ab (Aa (Ax _ rfl ?_ ?_))))))
   ·intro h1
    refine Af (Ae rfl rfl (Ab (Aa (A5 (Ak (A8 (v:=(.int _ _)) rfl rfl rfl ?_))))))
    exact ⟨rfl,H⟩
   ·intro h1
    exact absurd h1 (by decide)
theorem OW (bd:Nat) (bad:Bool) (w:World) (hb:w.heap[bd]? = some (Bl 4 [.bool bad])):Ret Tryz.prog 146 #[ptr bd] w fun v w'=>v = .bool (!bad)∧Ext [] w w':=by
 obtain ⟨w0,rfl⟩:∃ w0,w0=w:=⟨_,rfl⟩
 have H:=Ctx.start w0 []
 refine A2 (fn:=Tryz.f146) Tryz.func146 rfl [ptr bd] rfl (by kernel_rfl) ?_
 refine Af (Ai rfl rfl (Ab (Aa (Af (AX rfl Hs rfl ((by rw [Ap (H.ext.to hb (by simp))]; rfl)) ?_)))))
 refine Bs rfl rfl (Ai rfl rfl (Ab (Aa (A5 (A8 (v:=(.bool _)) rfl rfl rfl ?_)))))
 exact ⟨rfl,H.ext⟩
/-- The same number with a sign. -/
def s64 (n:Nat):Int:=IntKind.i64.wrap (n:Int)
abbrev FP (bb ba bd:Nat):Value := .func (.func 144) #[] [ptr bb,ptr ba,ptr bd].toArray
theorem Acb (b4 bb ba bd:Nat) (a:Option Addr) (c:Nat) (l:List UInt8) (s:Nat × Bool) (w:World) (B:TkB w [ba,bd] a c l) (hb:w.heap[bb]? = some (Bl 69 [.slice a l.length c])) (nb:bb∉[ba,bd]) (H:Ctx w [ba,bd] w (tkL ba bd s)) (hs:s.1≤l.length)
  (h4:w.heap[b4]? = some (Bl 136 [FP bb ba bd])):Ret Tryz.prog 80 #[ptr b4] w fun v w'=>v = .int .i64 (s64 (nx l 8 s).1)∧Ctx w [ba,bd] w' (tkL ba bd (nx l 8 s).2):=by
 obtain ⟨w0,rfl⟩:∃ w0,w0=w:=⟨_,rfl⟩
 refine A2 (fn:=Tryz.f80) Tryz.func80 rfl [ptr b4] rfl (by kernel_rfl) ?_
 refine Af (Ae rfl rfl (Ab (Aa (Af (AX rfl GF rfl ((by rw [Ap h4]; rfl)) ?_)))))
 refine Co rfl rfl GH (WY bb ba bd a c l s 8 _ B hb nb H hs (.inr (.inr (.inr rfl)))) rfl ?_
 rintro v w ⟨rfl,H⟩
 refine FZ rfl rfl F7 Rh ?_
 refine Ae rfl rfl (Ab (Aa (A5 (A8 (v:=(.int _ _)) rfl rfl rfl ?_))))
 exact ⟨rfl,H⟩

/-! ### The reference's -/
abbrev rkL (br:Nat) (a:Option Addr) (c:Nat) (l:List UInt8) (s:Nat × Bool):List (Nat × Obj):=[(br,Bl 150 [.slice a l.length c,.int .i64 (s.1:Int),.bool s.2])]
end Go.Proofs.YtapphbmlkdhnmaaGreat

/- What the bytes of a round say (the parse, in plain words), where it lies while it is gathered, and the function that adds an edge and its flow. -/
namespace Go.Proofs.YtapphbmlkdhnmaaGreat
open Go.GV
attribute [local irreducible] A4 W Wq Wt

theorem qk_of {K:Env→World→Prop} {e:Env} {w:World} (h:K e w):Qk K .normal e w:=h

/-! ### The parse -/
structure PRd where
 ids:List Int
 es:List Ed
 fl:List Int
 pot:List Int
 s:Nat × Bool
/-- A number and its place. -/
def KQ (l:List UInt8) (e:Ed) (p:PRd):PRd:=⟨p.ids,p.es++[e],p.fl++[s64 (nx l 8 p.s).1],p.pot,(nx l 8 p.s).2⟩
def idP (l:List UInt8) (p:PRd):PRd:=⟨p.ids++[((nx l 8 p.s).1:Int)],p.es,p.fl,p.pot,(nx l 8 p.s).2⟩
def atP (p:PRd) (s:Nat × Bool):PRd:=⟨p.ids,p.es,p.fl,p.pot,s⟩
/-- A due: its id, its banks, its amount, its weight, its flow. -/
def dueP (l:List UInt8) (p:PRd):PRd :=
 let s1:=(nx l 8 p.s).2
 let s2:=(nx l 1 s1).2
 let s3:=(nx l 1 s2).2
 let s4:=(nx l 8 s3).2
 let s5:=(nx l 2 s4).2
 KQ l ⟨((nx l 1 s1).1:Int),((nx l 1 s2).1:Int),s64 (nx l 8 s3).1,-((nx l 2 s4).1:Int)⟩ (atP (idP l p) s5)
def My (l:List UInt8):Nat→PRd→PRd
 | 0,p=>p
 | d+1,p=>if p.s.2=true then p else My l d (dueP l p)
/-- A bank: its room and the two flows. -/
def Zh (l:List UInt8) (h i:Nat) (p:PRd):PRd :=
 let s1:=(nx l 8 p.s).2
 KQ l ⟨(i:Int),(h:Int),4503599627370496,0⟩ (KQ l ⟨(h:Int),(i:Int),s64 (nx l 8 p.s).1,0⟩ (atP p s1))
def I0 (l:List UInt8) (h:Nat):Nat→Nat→PRd→PRd
 | 0,_,p=>p
 | n+1,i,p=>if p.s.2=true then p else I0 l h n (i+1) (Zh l h i p)
def potP (l:List UInt8) (p:PRd):PRd:=⟨p.ids,p.es,p.fl,p.pot++[s64 (nx l 8 p.s).1],(nx l 8 p.s).2⟩
def Mz (l:List UInt8):Nat→PRd→PRd
 | 0,p=>p
 | n+1,p=>if p.s.2=true then p else Mz l n (potP l p)
/-- What stands ahead. -/
structure Hd where
 no:Int
 day:Int
 cmp:Bool
 N:Int
def hs1 (l:List UInt8):Nat × Bool:=(nx l 4 (0,false)).2
def hs2 (l:List UInt8):Nat × Bool:=(nx l 8 (hs1 l)).2
def hs3 (l:List UInt8):Nat × Bool:=(nx l 8 (hs2 l)).2
def hs4 (l:List UInt8):Nat × Bool:=(nx l 1 (hs3 l)).2
def hs5 (l:List UInt8):Nat × Bool:=(nx l 1 (hs4 l)).2
def hs6 (l:List UInt8):Nat × Bool:=(nx l 1 (hs5 l)).2
def Ea (l:List UInt8):Nat:=(nx l 1 (hs4 l)).1
def WZ (l:List UInt8):Nat:=(nx l 1 (hs5 l)).1
def hdP (l:List UInt8):Hd:=⟨((nx l 8 (hs1 l)).1:Int),s64 (nx l 8 (hs2 l)).1,decide (((nx l 1 (hs3 l)).1:Int)=1),(Ea l:Int)+1⟩
def IW (h:Hd) (p:PRd):Rnd:=⟨h.no,h.day,h.cmp,p.ids,h.N,p.es,p.fl,p.pot⟩
def M1 (l:List UInt8):PRd :=
 let p1:=My l (WZ l) ⟨[],[],[],[],hs6 l⟩
 let p2:=if (hdP l).cmp=true then p1 else I0 l (Ea l) (Ea l) 0 p1
 Mz l (Ea l+1) p2
def Sj (l:List UInt8):Rnd:=IW (hdP l) (M1 l)
/-- The round of bytes, if they are put as they stand. -/
def U4 (l:List UInt8):Bool := !(M1 l).s.2 && (Bx (Sj l) && decide (HM (Sj l)=l))

/-! ### Where it lies -/
structure Gt where
 ba:Nat
 bd:Nat
 bb:Nat
 b2:Nat
 b4:Nat
 b6:Nat
 b7:Nat
 a:Option Addr
 c:Nat
 l:List UInt8
structure Gs where
 p:PRd
 aI:Option Addr
 cI:Nat
 fI:List Value
 aE:Option Addr
 cE:Nat
 fE:List Value
 aF:Option Addr
 cF:Nat
 fF:List Value
 aP:Option Addr
 cP:Nat
 fP:List Value
abbrev Gs.q (g:Gs):RSl:=⟨g.aI,g.cI,g.aE,g.cE,g.aF,g.cF,g.aP,g.cP⟩
abbrev ML (b4:Nat):Value := .func (.func 80) #[] [ptr b4].toArray
abbrev HS:Rnd:=⟨0,0,false,[],0,[],[],[]⟩
abbrev GA:RSl:=⟨none,0,none,0,none,0,none,0⟩
abbrev gE (g:Gs):List (Nat × Obj):=ent g.aI 24 g.fI++(ent g.aE 92 g.fE++(ent g.aF 2 g.fF++ent g.aP 2 g.fP))
abbrev gC (T:Gt) (h:Hd) (g:Gs):List (Nat × Obj):=[(T.b7,Bl 33 (AJ (IW h g.p) g.q)),(T.b6,Bl 139 [ML T.b4]),(T.b4,Bl 136 [FP T.bb T.ba T.bd]),(T.bb,Bl 69 [.slice T.a T.l.length T.c]),(T.b2,Bl 33 (AJ HS GA))]
abbrev gL (T:Gt) (h:Hd) (g:Gs) (s:Nat × Bool):List (Nat × Obj):=tkL T.ba T.bd s++(gC T h g++gE g)
structure GOk (T:Gt) (h:Hd) (w0 w:World) (g:Gs):Prop where
 H:Ctx w0 [] w (gL T h g g.p.s)
 I:OS g.aI g.p.ids.length g.cI 1 g.fI (g.p.ids.flatMap U1)
 E:OS g.aE g.p.es.length g.cE 4 g.fE (g.p.es.flatMap Bv)
 F:OS g.aF g.p.fl.length g.cF 1 g.fF (g.p.fl.flatMap I1)
 P:OS g.aP g.p.pot.length g.cP 1 g.fP (g.p.pot.flatMap I1)
 hs:g.p.s.1≤T.l.length
/-- What is fixed. -/
structure GFix (T:Gt) (w0:World):Prop where
 R:Rd w0 T.a 1 B8 T.l
 off:T.l≠[]→(adr T.a).block<w0.heap.size
 hc:T.l.length≤T.c
 hm:T.l.length≤100000
theorem Ctx.tkb {T:Gt} {w0 w:World} {s:Nat × Bool} {L:List (Nat × Obj)} (H:Ctx w0 [] w (tkL T.ba T.bd s++L)) (X:GFix T w0):TkB w [T.ba,T.bd] T.a T.c T.l:=by
 refine ⟨X.R.ext0 H.ext,fun hl h=>?_,X.hc,X.hm⟩
 have h1:=X.off hl
 have h2:w0.heap.size≤T.ba:=(H.own _ (List.mem_cons_self ..)).elim (fun h=>by cases h) id
 have h3:w0.heap.size≤T.bd:=(H.own _ (List.mem_cons_of_mem _ (List.mem_cons_self ..))).elim (fun h=>by cases h) id
 simp only [List.mem_cons,List.not_mem_nil,or_false] at h
 omega
theorem Ctx.nbL {T:Gt} {w0 w:World} {s:Nat × Bool} {L:List (Nat × Obj)} {o:Obj} (H:Ctx w0 [] w (tkL T.ba T.bd s++L)) {b:Nat} (hL:(b,o)∈L):b∉[T.ba,T.bd]:=fun hm=>by
 have h1:=(List.pairwise_append.1 H.nd).2.2
 simp only [List.mem_cons,List.not_mem_nil,or_false] at hm
 rcases hm with rfl | rfl
 ·exact h1 _ (List.mem_cons_self ..) _ hL rfl
 ·exact h1 _ (List.mem_cons_of_mem _ (List.mem_cons_self ..)) _ hL rfl
/-- The next number, whatever else stands there. -/
theorem I2 {T:Gt} {w0 w:World} {s:Nat × Bool} {L:List (Nat × Obj)} (X:GFix T w0) (H:Ctx w0 [] w (tkL T.ba T.bd s++L)) (hL:(T.bb,Bl 69 [.slice T.a T.l.length T.c])∈L) (hs:s.1≤T.l.length) {k:Nat} (hk:NJ k) :
  Ret Tryz.prog 144 #[.int .i64 (k:Int),ptr T.bb,ptr T.ba,ptr T.bd] w fun v w'=>v = .int .u64 ((nx T.l k s).1:Int)∧Ctx w0 [] w' (tkL T.ba T.bd (nx T.l k s).2++L)∧Ext [T.ba,T.bd] w w' :=
 Ret.mono (WY T.bb T.ba T.bd T.a T.c T.l s k w (Ctx.tkb H X) (H.blk _ (List.mem_append_right _ hL)) (Ctx.nbL H hL) (Ctx.lend H) hs hk) fun _ _ ⟨h1,h2⟩=>⟨h1,Ctx.back H h2,h2.ext⟩
theorem Ts {T:Gt} {w0 w:World} {s:Nat × Bool} {L:List (Nat × Obj)} (X:GFix T w0) (H:Ctx w0 [] w (tkL T.ba T.bd s++L)) (hL:(T.bb,Bl 69 [.slice T.a T.l.length T.c])∈L) (h4:(T.b4,Bl 136 [FP T.bb T.ba T.bd])∈L) (hs:s.1≤T.l.length) :
  Ret Tryz.prog 80 #[ptr T.b4] w fun v w'=>v = .int .i64 (s64 (nx T.l 8 s).1)∧Ctx w0 [] w' (tkL T.ba T.bd (nx T.l 8 s).2++L)∧Ext [T.ba,T.bd] w w' :=
 Ret.mono (Acb T.b4 T.bb T.ba T.bd T.a T.c T.l s w (Ctx.tkb H X) (H.blk _ (List.mem_append_right _ hL)) (Ctx.nbL H hL) (Ctx.lend H) hs (H.blk _ (List.mem_append_right _ h4))) fun _ _ ⟨h1,h2⟩=>⟨h1,Ctx.back H h2,h2.ext⟩
/-- The same, in the midst of it all. -/
theorem I3 {T:Gt} {h:Hd} {g:Gs} {w0 w:World} {s:Nat × Bool} (X:GFix T w0) (H:Ctx w0 [] w (gL T h g s)) (hs:s.1≤T.l.length) {k:Nat} (hk:NJ k) :
  Ret Tryz.prog 144 #[.int .i64 (k:Int),ptr T.bb,ptr T.ba,ptr T.bd] w fun v w'=>v = .int .u64 ((nx T.l k s).1:Int)∧Ctx w0 [] w' (gL T h g (nx T.l k s).2)∧Ext [T.ba,T.bd] w w' :=
 I2 X H (by simp) hs hk
theorem Lp {T:Gt} {h:Hd} {g:Gs} {w0 w:World} {s:Nat × Bool} (X:GFix T w0) (H:Ctx w0 [] w (gL T h g s)) (hs:s.1≤T.l.length) :
  Ret Tryz.prog 80 #[ptr T.b4] w fun v w'=>v = .int .i64 (s64 (nx T.l 8 s).1)∧Ctx w0 [] w' (gL T h g (nx T.l 8 s).2)∧Ext [T.ba,T.bd] w w' :=
 Ts X H (by simp) (by simp) hs
theorem Ctx.ltS {T:Gt} {h:Hd} {g:Gs} {w0 w:World} {s:Nat × Bool} (H:Ctx w0 [] w (gL T h g s)):∀ x∈[T.ba,T.bd],x<w.heap.size:=fun x hx=>by
 simp only [List.mem_cons,List.not_mem_nil,or_false] at hx
 rcases hx with rfl | rfl
 ·exact H.lt (k:=0) rfl
 ·exact H.lt (k:=1) rfl
/-! ### One of the four slices at the end -/
theorem pmI {α:Type} (X I R:List α):(X++(I++R)).Perm ((X++R)++I):=by
 rw [List.append_assoc]
 exact List.Perm.append_left X List.perm_append_comm
theorem pmE {α:Type} (X I E R:List α):(X++(I++(E++R))).Perm ((X++(I++R))++E):=by
 have:=pmI (X++I) E R
 simpa only [List.append_assoc] using this
theorem pmF {α:Type} (X I E F R:List α):(X++(I++(E++(F++R)))).Perm ((X++(I++(E++R)))++F):=by
 have:=pmI (X++I++E) F R
 simpa only [List.append_assoc] using this
theorem pmP {α:Type} (X I E F P:List α):(X++(I++(E++(F++P)))).Perm ((X++(I++(E++F)))++P):=by
 simp only [List.append_assoc]
 exact List.Perm.refl _
theorem Xa {α:Type} (A B I R:List α):(A++(B++(I++R))).Perm ((A++(B++R))++I):=by
 have:=pmI (A++B) I R
 simpa only [List.append_assoc] using this
theorem Xb {α:Type} (A B I E R:List α):(A++(B++(I++(E++R)))).Perm ((A++(B++(I++R)))++E):=by
 have:=pmE (A++B) I E R
 simpa only [List.append_assoc] using this
theorem Xc {α:Type} (A B I E F R:List α):(A++(B++(I++(E++(F++R))))).Perm ((A++(B++(I++(E++R))))++F):=by
 have:=pmF (A++B) I E F R
 simpa only [List.append_assoc] using this
theorem Xd {α:Type} (A B I E F P:List α):(A++(B++(I++(E++(F++P))))).Perm ((A++(B++(I++(E++F))))++P):=by
 have:=pmP (A++B) I E F P
 simpa only [List.append_assoc] using this
set_option maxRecDepth 20000 in
set_option maxHeartbeats 4000000 in
theorem Ku {T:Gt} {h:Hd} {g:Gs} {w0 w:World} (X:GFix T w0) (G:GOk T h w0 w g) (e:Ed) (hE:g.p.es.length≤100000) (hF:g.p.fl.length≤100000) :
  Ret Tryz.prog 81 #[.agg (Bv e).toArray,ptr T.b7,ptr T.b6] w fun _ w'=>∃ g',GOk T h w0 w' g'∧g'.p=KQ T.l e g.p:=by
 obtain ⟨⟨ids,es,fl,pot,s⟩,aI,cI,fI,aE,cE,fE,aF,cF,fF,aP,cP,fP⟩:=g
 obtain ⟨H,OI,OE,OF,OP,hs⟩:=G
 dsimp only at H OI OE OF OP hs hE hF
 refine A2 (fn:=Tryz.f81) Tryz.func81 rfl [.agg (Bv e).toArray,ptr T.b7,ptr T.b6] rfl (by kernel_rfl) ?_
 refine Af (Bu rfl (Bv e) (.agg _) rfl rfl H ?_)
 rintro b3 w - H
 refine Ab (Aa (Af (Ah rfl CG rfl (Ah rfl BO rfl (A9 rfl CF rfl H at3 rfl (Bf rfl Ec B7 rfl H at0 rfl (Dd _ (.agg _) rfl BT B7 Dq rfl (by decide) (by decide) rfl rfl rfl H ?_)))))))
 rintro b8 w - H
 refine De (a:=aE) (n:=es.length) (c:=cE) rfl BT BT B7 PF Dq rfl (by decide) rfl rfl (Ctx.perm (H.erase 1) ((Xb _ _ _ _ _).cons _)) OE rfl (CN _) (by omega) ?_
 rintro aE' cE' fE' w H OE'
 replace H:=H.perm (Xb _ _ _ _ _).symm
 rw [show es.length+1=(es++[e]).length from by simp] at OE' ⊢
 replace OE':OS aE' (es++[e]).length cE' 4 fE' ((es++[e]).flatMap Bv):=by { rw [List.flatMap_append]; simpa using OE' }
 refine Ah rfl CG rfl (Ah rfl BO rfl (BF (.slice _ _ _) rfl V6 rfl rfl rfl H at2 (by (simp; done)) ?_))
 rintro w H
 refine Ab (Aa ?_)
 replace H:Ctx w0 [] _ (gL T h ⟨⟨ids,es++[e],fl,pot,s⟩,aI,cI,fI,aE',cE',fE',aF,cF,fF,aP,cP,fP⟩ s):=H
 have hSw:=Ctx.ltS H
 refine Gc (n:=6) (N:=10) (anc:=Kf 6 [[],[0],[0,1],[],[3],[3,4]]) [T.ba,T.bd] (fun i=>12+i) [isV (.pointer (some ⟨T.b7,6,none⟩)),isV (.pointer (some ⟨T.b7,6,none⟩)),isV (.slice aF fl.length cF),isV (ML T.b4),isV (.int .i64 (s64 (nx T.l 8 s).1)),nsV w 2 1 [.int .i64 (s64 (nx T.l 8 s).1)]] [4] (fun k w'=>Ctx w0 [] w' (gL T h ⟨⟨ids,es++[e],fl,pot,s⟩,aI,cI,fI,aE',cE',fE',aF,cF,fF,aP,cP,fP⟩ ([s,(nx T.l 8 s).2].getD k s))) (show Tryz.prog.follows .mixedOrders=true by kernel_rfl) rfl (by decide) (by kernel_rfl) (DS _) (fun i j _ _ h=>by have h:12+i=12+j:=h; omega) ⟨BN _ _,BN _ _,BN _ _,BN _ _,BN _ _,Oc hSw _ _ _,trivial⟩ (by kernel_rfl) (fun k w w2 h hx=>h.call hx) H.drew (by kernel_rfl) ?_ ?_ ?_
 ·rintro m o e' w' hm hic ho hold hg hx ⟨k,HJ⟩
  have hin:∀ t:Nat,t<12→∀ j,j<6→t≠(fun i=>12+i) j:=fun t ht j hj=>by dsimp only; omega
  have g1:e'.g 1=ptr T.b7:=(hold 1 (hin 1 (by decide))).trans rfl
  have g2:e'.g 2=ptr T.b6:=(hold 2 (hin 2 (by decide))).trans rfl
  have hcs:m=0∨m=1∨m=2∨m=3∨m=4∨m=5:=by omega
  rcases hcs with rfl | rfl | rfl | rfl | rfl | rfl
  ·cases Option.some.inj ho
   exact Ah (off:=6) rfl (by kernel_rfl) g1 (Ab ⟨_,.refl _ _,rfl,rfl⟩)
  ·cases Option.some.inj ho
   exact Ah (off:=0) rfl (by kernel_rfl) (hg 0 (by decide)) (Ab ⟨_,.refl _ _,rfl,rfl⟩)
  ·cases Option.some.inj ho
   exact AX rfl BL (hg 1 (by decide)) (by rw [Ap (HJ.get (k:=2) rfl)]; rfl) (Ab ⟨_,.refl _ _,rfl,rfl⟩)
  ·cases Option.some.inj ho
   exact AX rfl LP g2 (by rw [Ap (HJ.get (k:=3) rfl)]; rfl) (Ab ⟨_,.refl _ _,rfl,rfl⟩)
  ·exact absurd (by decide) hic
  ·cases Option.some.inj ho
   refine Dn [.int .i64 (s64 (nx T.l 8 s).1)] rfl AU Bw F8 (by decide) (by decide) ?_ (Ctx.start w' []) ?_
   ·show Instr.fill _ _ [(0,e'.g 16)]=_
    rw [show e'.g 16 = .int .i64 (s64 (nx T.l 8 s).1) from (hg 4 (by decide))]
    kernel_rfl
   ·intro b w2 _ H
    exact Ab ⟨_,H.ext,rfl,b,rfl,H.get at0,Nat.le_trans hx.size ((H.own _ (List.mem_cons_self ..)).elim (fun h=>by cases h) id)⟩
 ·intro k i o e' w' hk ho hold hg hx HJ
  have hin:∀ t:Nat,t<12→∀ j,j<6→t≠(fun i=>12+i) j:=fun t ht j hj=>by dsimp only; omega
  have g1:e'.g 1=ptr T.b7:=(hold 1 (hin 1 (by decide))).trans rfl
  have g2:e'.g 2=ptr T.b6:=(hold 2 (hin 2 (by decide))).trans rfl
  rcases k with _ | k
  ·cases hk
   cases Option.some.inj ho
   refine Co rfl (hg 3 (by decide)) PG (Lp X HJ hs) rfl ?_
   rintro v w2 ⟨rfl,h2,h3⟩
   exact Ab ⟨_,h3,rfl,rfl,h2⟩
  ·simp at hk
 ·intro e' w' hds hold hg hx HJ
  have hin:∀ t:Nat,t<12→∀ j,j<6→t≠(fun i=>12+i) j:=fun t ht j hj=>by dsimp only; omega
  obtain ⟨b5,h5,hb5,hn5⟩:=hg 5 (by decide)
  replace HJ:Ctx w0 [] w' (gL T h ⟨⟨ids,es++[e],fl,pot,s⟩,aI,cI,fI,aE',cE',fE',aF,cF,fF,aP,cP,fP⟩ (nx T.l 8 s).2):=HJ
  refine D4 rfl AU AU Bw Kg F8 rfl (by decide) [.int .i64 (s64 (nx T.l 8 s).1)] (hg 2 (by decide)) h5 (Ctx.perm HJ (Xc _ _ _ _ _ _)) OF rfl (by simp [B0]) (fun j v hv=>⟨_,rfl,by rw [Cu,Nat.zero_add,Ap hb5]; exact hv⟩) (by omega) fun a' c' full' w3 H6 O6=>?_
  replace H6:=H6.perm (Xc _ _ _ _ _ _).symm
  rw [show fl.length+1=(fl++[s64 (nx T.l 8 s).1]).length from by simp] at O6 ⊢
  refine Ah (off:=6) rfl (by kernel_rfl) ((hold 1 (hin 1 (by decide))).trans rfl) ?_
  refine Ah (off:=0) rfl (by kernel_rfl) (Dj _ _ _) ?_
  refine BF (.slice a' (fl++[s64 (nx T.l 8 s).1]).length c') rfl Nq (Dj _ _ _) rfl rfl H6 at2 (by simp) fun w4 H8=>Ab ?_
  refine qk_of (CJ rfl (hds.trans rfl) ⟨⟨⟨ids,es++[e],fl++[s64 (nx T.l 8 s).1],pot,(nx T.l 8 s).2⟩,aI,cI,fI,aE',cE',fE',a',c',full',aP,cP,fP⟩,⟨H8,OI,OE',?_,OP,G9 hs⟩,rfl⟩)
  dsimp only
  rw [List.flatMap_append]
  simpa using O6
end Go.Proofs.YtapphbmlkdhnmaaGreat
