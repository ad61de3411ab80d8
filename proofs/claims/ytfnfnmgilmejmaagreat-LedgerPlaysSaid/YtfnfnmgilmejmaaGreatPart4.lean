/- Part 4 of the proof. -/
import Derived.Test.YtfnfnmgilmejmaaGreatProg
import Derived.KernelRfl
import Derived.Test.YtfnfnmgilmejmaaGreatPart3
set_option maxRecDepth 20000
set_option maxHeartbeats 4000000
namespace Go.Proofs.YtfnfnmgilmejmaaGreat
open Go.GV Go.Proofs.Tryz
variable{α β:Type}{N b m m0:Int}{fl:List Int}{src:List Nat}{l:List α}{b2 b3 d i k n z:Nat}{cap cap' f g p q x x' y:Nat->Int}{t:TypeId}{w:World}
theorem aB{α:Type _}{x:Option α}{v:α}(h:x=some v:=by kernel_rfl):Fc x v:=⟨h⟩
abbrev aC(i v):=Fc (Dc prog i) v
abbrev aG(i v):=Fc (DB prog i) v
abbrev aH(i v):=Fc (C8 prog i) v
abbrev aJ(i j v):=Fc (B5 prog i j) v
abbrev aK(i v):=Fc (CJ prog i) v
abbrev aL(i v):=Fc (Cb prog i) v
abbrev aM(i v):=Fc (Tryz.prog.underlying i) v
abbrev aN(i v):=Fc (Ca prog i) v
instance:aC 111 true:=aB
instance:aC 119 false:=aB
instance:aC 154 false:=aB
instance:aC 162 true:=aB
instance:aC 195 true:=aB
instance:aC 2 false:=aB
instance:aC 22 false:=aB
instance:aC 222 true:=aB
instance:aC 23 false:=aB
instance:aC 24 false:=aB
instance:aC 25 false:=aB
instance:aC 259 false:=aB
instance:aC 28 true:=aB
instance:aC 282 false:=aB
instance:aC 3 false:=aB
instance:aC 307 false:=aB
instance:aC 308 false:=aB
instance:aC 31 false:=aB
instance:aC 315 true:=aB
instance:aC 316 false:=aB
instance:aC 325 false:=aB
instance:aC 332 false:=aB
instance:aC 337 true:=aB
instance:aC 36 false:=aB
instance:aC 4 false:=aB
instance:aC 41 false:=aB
instance:aC 43 true:=aB
instance:aC 46 true:=aB
instance:aC 5 false:=aB
instance:aC 50 false:=aB
instance:aC 51 false:=aB
instance:aC 53 true:=aB
instance:aC 55 true:=aB
instance:aC 57 true:=aB
instance:aC 86 false:=aB
instance:aC 88 false:=aB
instance:aC 90 false:=aB
instance:aC 94 false:=aB
instance:aC 97 false:=aB
instance:aC 99 false:=aB
instance:Fc (Q8 prog 121) ((16,119)):=aB
instance:Fc (Q8 prog 157) ((4,57)):=aB
instance:aG 111 56:=aB
instance:aG 162 16:=aB
instance:aG 195 32:=aB
instance:aG 2 8:=aB
instance:aG 24 8:=aB
instance:aG 3 8:=aB
instance:aG 315 32:=aB
instance:aG 316 24:=aB
instance:aG 337 16:=aB
instance:aG 57 128:=aB
abbrev qC:List Nat:=[5,6,7,8,9,10,11,12,13,14,15,16,17,29,30,31,32,33,34,35,36,37,38,39,40,41,42,43,44,45,46,47,48,49,50,51,52,53,54,55,56,57,58,59,60,61,62,63,64,65,78,79,80,81,82,83,84,85,86,87,88,89,90,91,92,93,94,95,96,97,98,99,100,101,102,103,104,105,106,107,108,109,110,111,112,113,114,115,116,117,118,119,120,121,122,123,124,125,126,127,128,129,130,131,138,139,140,141,142,143,144,145,146,147,148,149,150,151,152,153,154,155,156,157,158,159,160,161,162,163,164,165,166,167,168,169,170,171,172,173,174,175,176,184,185,186,187,188,189,190,191,192,193,194,195,196,197,198,199,200,201,202,203,204,205,206,207,208,209,210,211,212,213,216,217,218,219,220,221,222,223,224,225,226,227,228,229,230,231,232,233,234,235,236,237,238,239,240,241,242,243,244,245,247,248,249,250,251,252,253,254,255,256,257,258,259,260,261,262,263,264,265,266,267,268,269,270,271,272,273,274,275,276,277,278,279,280,281]
theorem qB{f:Nat}(h:qC.any (Nat.beq f)=true:=by exact U):An prog f=true:=by obtain⟨g,h,e⟩:=List.any_eq_true.1 h;rw[Nat.eq_of_beq_eq_true e];exact List.all_eq_true.1 (show qC.all (An prog)=true by kernel_rfl) g h
instance:aH 22 162:=aB
instance:aH 23 111:=aB
instance:aH 25 57:=aB
instance:aH 252 31:=aB
instance:aH 254 222:=aB
instance:aH 282 3:=aB
instance:aH 29 46:=aB
instance:aH 308 316:=aB
instance:aH 316 315:=aB
instance:aH 332 337:=aB
instance:aH 41 2:=aB
instance:aH 50 24:=aB
instance:aH 51 195:=aB
instance:aJ 101 0 0:=aB
instance:aJ 101 1 1:=aB
instance:aJ 103 0 0:=aB
instance:aJ 103 1 1:=aB
instance:aJ 103 2 2:=aB
instance:aJ 103 3 3:=aB
instance:aJ 111 0 0:=aB
instance:aJ 111 1 1:=aB
instance:aJ 111 2 2:=aB
instance:aJ 111 3 3:=aB
instance:aJ 111 4 4:=aB
instance:aJ 111 5 5:=aB
instance:aJ 111 6 6:=aB
instance:aJ 132 0 0:=aB
instance:aJ 132 1 1:=aB
instance:aJ 153 0 0:=aB
instance:aJ 156 0 0:=aB
instance:aJ 156 1 1:=aB
instance:aJ 159 0 0:=aB
instance:aJ 159 1 32:=aB
instance:aJ 159 2 33:=aB
instance:aJ 162 0 0:=aB
instance:aJ 162 1 1:=aB
instance:aJ 195 0 0:=aB
instance:aJ 195 1 1:=aB
instance:aJ 195 2 2:=aB
instance:aJ 195 3 3:=aB
instance:aJ 222 0 0:=aB
instance:aJ 222 1 1:=aB
instance:aJ 261 0 0:=aB
instance:aJ 261 1 2:=aB
instance:aJ 261 2 3:=aB
instance:aJ 261 3 4:=aB
instance:aJ 261 4 5:=aB
instance:aJ 28 0 0:=aB
instance:aJ 28 1 1:=aB
instance:aJ 28 2 2:=aB
instance:aJ 28 3 3:=aB
instance:aJ 28 4 4:=aB
instance:aJ 28 5 5:=aB
instance:aJ 310 0 0:=aB
instance:aJ 310 1 1:=aB
instance:aJ 310 2 2:=aB
instance:aJ 310 3 3:=aB
instance:aJ 315 0 0:=aB
instance:aJ 315 1 1:=aB
instance:aJ 315 2 2:=aB
instance:aJ 315 3 3:=aB
instance:aJ 334 0 0:=aB
instance:aJ 337 0 0:=aB
instance:aJ 337 1 1:=aB
instance:aJ 43 0 0:=aB
instance:aJ 43 1 1:=aB
instance:aJ 46 0 0:=aB
instance:aJ 46 1 1:=aB
instance:aJ 46 2 2:=aB
instance:aJ 46 3 3:=aB
instance:aJ 46 4 4:=aB
instance:aJ 46 5 5:=aB
instance:aJ 46 6 6:=aB
instance:aJ 53 0 0:=aB
instance:aJ 53 1 1:=aB
instance:aJ 55 0 0:=aB
instance:aJ 55 1 1:=aB
instance:aJ 57 0 0:=aB
instance:aJ 57 1 1:=aB
instance:aJ 57 2 2:=aB
instance:aJ 57 3 3:=aB
instance:aJ 57 4 4:=aB
instance:aJ 57 5 6:=aB
instance:aJ 93 0 0:=aB
instance:aJ 93 1 1:=aB
instance:aJ 93 2 2:=aB
instance:aJ 93 3 3:=aB
instance:aJ 96 0 0:=aB
theorem AW:Tryz.prog.follows .mixedOrders=true:=by kernel_rfl
instance:Fc (Kq prog 154) ((24,111)):=aB
instance:aK 101 [(0,1),(1,1)]:=aB
instance:aK 103 [(0,1),(1,1),(2,1),(3,1)]:=aB
instance:aK 111 [(0,1),(1,1),(2,1),(3,1),(4,1),(5,1),(6,1)]:=aB
instance:aK 132 [(0,1),(1,1)]:=aB
instance:aK 153 [(0,1)]:=aB
instance:aK 156 [(0,1),(1,1)]:=aB
instance:aK 159 [(0,32),(32,1),(33,1)]:=aB
instance:aK 162 [(0,1),(1,1)]:=aB
instance:aK 195 [(0,1),(1,1),(2,1),(3,1)]:=aB
instance:aK 222 [(0,1),(1,1)]:=aB
instance:aK 261 [(0,2),(2,1),(3,1),(4,1),(5,1)]:=aB
instance:aK 28 [(0,1),(1,1),(2,1),(3,1),(4,1),(5,1),(6,1)]:=aB
instance:aK 310 [(0,1),(1,1),(2,1),(3,1)]:=aB
instance:aK 315 [(0,1),(1,1),(2,1),(3,1)]:=aB
instance:aK 334 [(0,1)]:=aB
instance:aK 337 [(0,1),(1,1)]:=aB
instance:aK 43 [(0,1),(1,1)]:=aB
instance:aK 46 [(0,1),(1,1),(2,1),(3,1),(4,1),(5,1),(6,1)]:=aB
instance:aK 53 [(0,1),(1,1)]:=aB
instance:aK 55 [(0,1),(1,1)]:=aB
instance:aK 57 [(0,1),(1,1),(2,1),(3,1),(4,2),(6,2)]:=aB
instance:aK 93 [(0,1),(1,1),(2,1),(3,1)]:=aB
instance:aK 96 [(0,1)]:=aB
instance:aL 111 7:=aB
instance:aL 119 1:=aB
instance:aL 121 16:=aB
instance:aL 162 2:=aB
instance:aL 195 4:=aB
instance:aL 2 1:=aB
instance:aL 22 1:=aB
instance:aL 222 2:=aB
instance:aL 23 1:=aB
instance:aL 24 1:=aB
instance:aL 25 1:=aB
instance:aL 28 7:=aB
instance:aL 3 1:=aB
instance:aL 307 1:=aB
instance:aL 31 1:=aB
instance:aL 315 4:=aB
instance:aL 316 1:=aB
instance:aL 325 1:=aB
instance:aL 332 1:=aB
instance:aL 337 2:=aB
instance:aL 4 1:=aB
instance:aL 41 1:=aB
instance:aL 43 2:=aB
instance:aL 46 7:=aB
instance:aL 50 1:=aB
instance:aL 51 1:=aB
instance:aL 53 2:=aB
instance:aL 55 2:=aB
instance:aL 57 8:=aB
instance:aM 2 (.int .i64):=aB
instance:aM 24 (.int .u64):=aB
instance:aM 270 (.int .u64):=aB
instance:aM 3 (.int .i64):=aB
instance:aM 317 (.pointer 334):=aB
instance:aM 32 (.pointer 93):=aB
instance:aM 325 (.int .u64):=aB
instance:aM 34 (.pointer 103):=aB
instance:aM 4 (.bool):=aB
instance:aM 5 (.int .u8):=aB
instance:aM 86 (.pointer 153):=aB
instance:aM 88 (.pointer 156):=aB
instance:aM 9 (.string):=aB
instance:aM 90 (.pointer 159):=aB
instance:aN 101 [.slice none 0 0,.int .u64 0]:=aB
instance:aN 103 [.pointer none,.pointer none,.pointer none,.int .i64 0]:=aB
instance:aN 111 [.int .u64 0,.int .i64 0,.int .i64 0,.int .i64 0,.int .i64 0,.int .i64 0,.bool false]:=aB
instance:aN 121 (List.replicate 16 (.nilFunc:Value)):=aB
instance:aN 132 [.slice none 0 0,.int .u64 0]:=aB
instance:aN 153 [.slice none 0 0]:=aB
instance:aN 156 [.map none,.int .u64 0]:=aB
instance:aN 159 [.int .u64 0,.int .i64 0,.bool false,.slice none 0 0,.int .i64 0,.slice none 0 0,.slice none 0 0,.slice none 0 0,.int .u64 0,.int .i64 0,.bool false,.slice none 0 0,.int .i64 0,.slice none 0 0,.slice none 0 0,.slice none 0 0,.int .u64 0,.int .i64 0,.bool false,.slice none 0 0,.int .i64 0,.slice none 0 0,.slice none 0 0,.slice none 0 0,.int .u64 0,.int .i64 0,.bool false,.slice none 0 0,.int .i64 0,.slice none 0 0,.slice none 0 0,.slice none 0 0,.int .u64 0,.int .u64 0]:=aB
instance:aN 162 [.int .i64 0,.int .i64 0]:=aB
instance:aN 195 [.int .i64 0,.int .i64 0,.int .i64 0,.int .i64 0]:=aB
instance:aN 2 [.int .i64 0]:=aB
instance:aN 222 [.int .i64 0,.nilFunc]:=aB
instance:aN 24 [.int .u64 0]:=aB
instance:aN 261 [.int .i64 0,.slice none 0 0,.slice none 0 0,.slice none 0 0,.slice none 0 0,.int .i64 0]:=aB
instance:aN 28 [.int .i64 0,.slice none 0 0,.slice none 0 0,.int .u64 0,.slice none 0 0,.int .u64 0,.slice none 0 0]:=aB
instance:aN 3 [.int .i64 0]:=aB
instance:aN 307 [.pointer none]:=aB
instance:aN 31 [.nilFunc]:=aB
instance:aN 310 [.slice none 0 0,.slice none 0 0,.slice none 0 0,.slice none 0 0]:=aB
instance:aN 315 [.int .i64 0,.int .i64 0,.int .i64 0,.int .i64 0]:=aB
instance:aN 316 [.slice none 0 0]:=aB
instance:aN 325 [.int .u64 0]:=aB
instance:aN 334 [.slice none 0 0]:=aB
instance:aN 337 [.int .i64 0,.int .i64 0]:=aB
instance:aN 4 [.bool false]:=aB
instance:aN 41 [.slice none 0 0]:=aB
instance:aN 43 [.int .i64 0,.slice none 0 0]:=aB
instance:aN 46 [.int .u8 0,.int .i64 0,.int .i64 0,.int .i64 0,.int .i64 0,.int .i64 0,.int .u64 0]:=aB
instance:aN 53 [.int .i64 0,.slice none 0 0]:=aB
instance:aN 55 [.slice none 0 0,.slice none 0 0]:=aB
instance:aN 57 [.int .u64 0,.int .i64 0,.bool false,.slice none 0 0,.int .i64 0,.slice none 0 0,.slice none 0 0,.slice none 0 0]:=aB
instance:aN 93 [.pointer none,.pointer none,.pointer none,.int .i64 0]:=aB
instance:aN 96 [.slice none 0 0]:=aB
instance:Fc ((Tryz.prog.info? 111).bind (·.zero)) ((.agg #[.int .u64 0,.int .i64 0,.int .i64 0,.int .i64 0,.int .i64 0,.int .i64 0,.bool false])):=aB
abbrev Ar:=Nat × Nat × Int
def upd(p:Nat->Int)(v:Nat)(x:Int):Nat->Int:=fun u=>if u=v then x else p u
def HN(p:Nat->Int)(a:Ar):Nat->Int:=if p a.1+a.2.2<p a.2.1 then upd p a.2.1 (p a.1+a.2.2)else p
def Fea(A:List Ar)(q:Nat->Int):Prop:=∀a∈A,q a.2.1<=q a.1+a.2.2
def step0(A:List Ar)(d:Nat->Int)(v:Nat):Int:=A.foldl (fun m a=>if a.2.1=v then min m (d a.1+a.2.2)else m) (d v)
def DD(A:List Ar):Nat->Nat->Int
 |0,_=>0
 |r+1,v=>step0 A (DD A r) v
theorem JS{d:Nat->Int}{v:Nat}:∀{A:List Ar} {m:Int},A.foldl (fun m a=>if a.2.1=v then min m (d a.1+a.2.2)else m) m<=m
 | [],m=>qa4 _
 |a::A,m=>by
  rw[qdm];refine qbj JS ?_
  split
  .exact Int.min_le_left ..
  .exact qa4 _
theorem LO{d:Nat->Int}{v:Nat}:∀{A:List Ar} {m:Int} {a:Ar},a∈A->a.2.1=v->A.foldl (fun m a=>if a.2.1=v then min m (d a.1+a.2.2)else m) m<=d a.1+a.2.2
 |b::A,m,a,h,hv=>by
  rw[qdm]
  rcases qaf.1 h with rfl|h
  .refine qbj JS ?_;rw[if_pos hv];exact Int.min_le_right ..
  .exact LO h hv
theorem MV{d:Nat->Int}{v:Nat}:∀{A:List Ar} {m:Int},A.foldl (fun m a=>if a.2.1=v then min m (d a.1+a.2.2)else m) m=m\/∃a∈A,a.2.1=v/\A.foldl (fun m a=>if a.2.1=v then min m (d a.1+a.2.2)else m) m=d a.1+a.2.2
 | [],m => .inl rfl
 |b::A,m=>by
  rw[qdm]
  rcases MV (d:=d) (v:=v) (A:=A) (m:=if b.2.1=v then min m (d b.1+b.2.2)else m)with h|⟨a,ha,hv,h⟩
  .rw[h]
   by_cases hb:b.2.1=v
   .rw[if_pos hb]
    rcases Int.le_total m (d b.1+b.2.2)with h5|h5
    .exact .inl (Int.min_eq_left h5)
    .exact .inr ⟨b,qah ..,hb,Int.min_eq_right h5⟩
   .rw[if_neg hb];exact .inl rfl
  .exact .inr ⟨a,qae _ ha,hv,h⟩
theorem Yw(A:List Ar)(r v:Nat):DD A (r+1) v<=DD A r v:=JS
theorem K3(A:List Ar)(v:Nat):∀{r s:Nat},r<=s->DD A s v<=DD A r v
 |r,s,h=>by
  obtain⟨k,rfl⟩:=Nat.exists_eq_add_of_le h
  induction k with
  |zero=>exact qa4 _
  |succ k ih=>exact qbj (Yw A (r+k) v)<|ih<|by omega
theorem Yx{A:List Ar}{a:Ar}(h:a∈A)(r:Nat):DD A (r+1) a.2.1<=DD A r a.1+a.2.2:=LO h rfl
theorem UF(A:List Ar)(r v:Nat):DD A (r+1) v=DD A r v\/∃a∈A,a.2.1=v/\DD A (r+1) v=DD A r a.1+a.2.2:=MV
theorem QY{A:List Ar}:∀{r v:Nat},DD A (r+1) v<DD A r v->∃x:Nat->Nat,x (r+1)=v/\∀j,j<=r->DD A (j+1) (x<|j+1)<DD A j (x<|j+1)/\∃a∈A,a.1=x j/\a.2.1=x (j+1)/\DD A (j+1) (x<|j+1)=DD A j (x j)+a.2.2
 |0,v,h=>by
  rcases UF A 0 v with h1|⟨a,ha,hv,h1⟩
  .omega
  .refine⟨fun j=>if j=0 then a.1 else v,rfl,fun j hj=>?_⟩;obtain rfl:j=0:=by omega
   exact⟨h,a,ha,rfl,hv,h1⟩
 |r+1,v,h=>by
  rcases UF A (r+1) v with h1|⟨a,ha,hv,h1⟩
  .omega
  .have h2:=Yw A r a.1;have h3:=Yx ha r;rw[hv]at h3;have h4:DD A (r+1) a.1<DD A r a.1:=by omega
   obtain⟨x,hx,hj⟩:=QY h4;obtain⟨y,hy1,hy2⟩:∃y:Nat->Nat,y (r+2)=v/\∀j,j≠r+2->y j=x j:=⟨fun j=>if j=r+2 then v else x j,if_pos rfl,fun j h=>if_neg h⟩;refine⟨y,hy1,fun j hjr=>?_⟩
   by_cases h5:j=r+1
   .subst h5;rw[show r+1+1=r+2 from rfl,hy1,hy2 _<|by omega];exact⟨h,a,ha,hx.symm,hv,by rw[hx];exact h1⟩
   .rw[hy2 _<|by omega,hy2 _<|by omega];exact hj j<|by omega
theorem K4:∀(n:Nat) (l:List Nat),l.Nodup->(∀x∈l,x<n)->l.length<=n
 |0,l,_,h=>by
  cases l with
  |nil=>exact qaq _
  |cons x l=>exact absurd (h x<|by simp)<|qay _
 |n+1,l,hd,h=>by
  have h1:=K4 n (l.filter (· != n)) (hd.filter _) (fun x hx=>by
   have:=h x (qbc.1 hx).1;have h2:=(qbc.1 hx).2
   simp at h2;omega)
  have h2:l.length=(l.filter (· != n)).length+l.count n:=by
   clear hd h h1
   induction l with
   |nil=>rfl
   |cons x l ih =>
    rw[qbz,qbo]
    by_cases hx:x=n
    .subst hx;simp;omega
    .simp[hx];omega
  have h3:l.count n<=1:=List.nodup_iff_count.1 hd n;omega
theorem Yy{x:Nat->Nat}(h:∀j,j<=n->x j<n):∃i j,i<j/\j<=n/\x i=x j:=by
 refine Classical.byContradiction fun hn=>?_
 have hd:((List.range<|n+1).map x).Nodup:=by
  rw[List.nodup_iff_pairwise_ne,List.pairwise_map];refine List.Pairwise.imp_of_mem (R:=fun a b=>a<b) (fun{a b} ha hb hab he=>hn ⟨a,b,hab,?_,he⟩) List.pairwise_lt_range;have:=qa5.1 hb;omega
 have h1:=K4 n _ hd fun y hy=>by
  obtain⟨j,hj,rfl⟩:=qak.1 hy;exact h j (by have:=qa5.1 hj;omega)
 simp at h1;omega
theorem Aiu{A:List Ar}(hq:Fea A q)(hA:∀a∈A,a.1<n/\a.2.1<n)(v:Nat):DD A (n+1) v=DD A n v:=by
 have h1:=Yw A n v;refine Classical.byContradiction fun hne=>?_;obtain⟨x,-,hx⟩:=QY<|show DD A (n+1) v<DD A n v by omega
 obtain⟨i,j,hij,hjn,he⟩:=Yy (n:=n) (x:=fun j=>x<|j+1) (fun j hj=>by
  obtain⟨_,a,ha,_,h2,_⟩:=hx j hj
  rw[<-h2];exact(hA a ha).2)
 have hmono:∀k,i+k<=n->DD A (i+1) (x<|i+1) - q (x<|i+1)<=DD A (i+k+1) (x<|i+k+1) - q (x<|i+k+1):=by
  intro k
  induction k with
  |zero=>intro _;exact qa4 _
  |succ k ih =>
   intro hk;have h2:=ih (by omega);obtain⟨_,a,ha,h3,h4,h5⟩:=hx (i+k+1) hk;have h6:=hq a ha;rw[h3,h4]at h6;show _<=DD A (i+(k+1)+1) (x<|i+(k+1)+1) - q (x<|i+(k+1)+1);rw[show i+(k+1)+1=i+k+1+1 by omega,h5];omega
 have h2:=hmono (j - i) (by omega);rw[show i+(j - i)+1=j+1 by omega,<-he]at h2;have h3:=(hx j hjn).1;rw[<-he]at h3;have h4:=K3 A (x<|i+1) (show i+1<=j by omega);omega
theorem TB{A:List Ar}(hq:Fea A q)(hA:∀a∈A,a.1<n/\a.2.1<n):Fea A<|DD A n:=fun a ha=>by
 have h1:=Yx ha n;rw[Aiu hq hA]at h1;exact h1
theorem UG{A:List Ar}{m:Int}(h0:0<=m)(hA:∀a∈A,-m<=a.2.2):∀(r v:Nat),-(r*m)<=DD A r v
 |0,v=>by simp[DD]
 |r+1,v=>by
  have e:((r+1:Nat):Int)*m=r*m+m:=by rw[qc8,Int.add_mul];simp
  rcases UF A r v with h|⟨a,ha,hv,h⟩
  .rw[h,e];have:=UG h0 hA r v;omega
  .rw[h,e];have:=UG h0 hA r a.1;have:=hA a ha;omega
theorem UH(p:Nat->Int)(a:Ar)(v:Nat):HN p a v<=p v:=by
 unfold HN
 split
 .unfold upd
  split
  .rename_i h1 h2;subst h2;omega
  .exact qa4 _
 .exact qa4 _
theorem Acd{a:Ar}(hf:f a.2.1<=f a.1+a.2.2)(h:∀v,f v<=p v)(v:Nat):f v<=HN p a v:=by
 unfold HN
 split
 .unfold upd
  split
  .rename_i h1 h2;subst h2;have:=h a.1;omega
  .exact h v
 .exact h v
theorem Yz(p:Nat->Int)(a:Ar):HN p a a.2.1<=p a.1+a.2.2:=by
 unfold HN
 split
 .unfold upd;rw[if_pos rfl];exact qa4 _
 .omega
theorem K5:∀(A:List Ar) (p:Nat->Int) (v:Nat),A.foldl HN p v<=p v
 | [],_,_=>qa4 _
 |a::A,p,v=>qbj (K5 A _ v)<|UH p a v
theorem PM{f:Nat->Int}:∀{A:List Ar} {p:Nat->Int},Fea A f->(∀v,f v<=p v)->∀v,f v<=A.foldl HN p v
 | [],_,_,h,v=>h v
 |a::_,_,hf,h,v=>PM (fun b hb=>hf b<|qae _ hb) (Acd (hf a<|qah ..) h) v
theorem QZ{q:Nat->Int}:∀{A:List Ar} {p:Nat->Int},(∀v,p v<=q v)->∀a∈A,A.foldl HN p a.2.1<=q a.1+a.2.2
 |b::A,p,h,a,ha=>by
  rw[qdm]
  rcases qaf.1 ha with rfl|ha
  .have h1:=K5 A (HN p a) a.2.1;have h2:=Yz p a;have:=h a.1;omega
  .exact QZ (fun v=>qbj (UH p b v)<|h v) a ha
def Eu(A:List Ar):Nat->(Nat->Int)->Nat->Int
 |0,p=>p
 |r+1,p=>A.foldl HN (Eu A r p)
theorem Ju(A:List Ar):∀(r:Nat) (v:Nat),Eu A r (fun _=>0) v<=DD A r v
 |0,v=>qa4 _
 |r+1,v=>by
  show A.foldl HN (Eu A r fun _=>0) v<=_
  rcases UF A r v with h|⟨a,ha,hv,h⟩
  .rw[h];exact qbj (K5 A _ v)<|Ju A r v
  .rw[h,<-hv];exact QZ (Ju A r) a ha
theorem Jv{A:List Ar}{f:Nat->Int}(hf:Fea A f)(h0:∀v,f v<=0):∀(r v:Nat),f v<=Eu A r (fun _=>0) v
 |0,v=>h0 v
 |r+1,v=>PM hf (Jv hf h0 r) v
theorem VP{A:List Ar}(hq:Fea A q)(hA:∀a∈A,a.1<n/\a.2.1<n):Fea A<|Eu A n fun _=>0:=by
 have hf:=TB hq hA;have h0:∀v,DD A n v<=0:=fun v=>K3 A v<|qai n;have he:∀v,Eu A n (fun _=>0) v=DD A n v:=fun v=>Int.le_antisymm (Ju A n v)<|Jv hf h0 n v;intro a ha;rw[he,he];exact hf a ha
theorem Y0{A:List Ar}(hq:Fea A q)(hA:∀a∈A,a.1<n/\a.2.1<n)(hc:∀a∈A,-m<=a.2.2)(r v:Nat)(hm:0<=m:=by omega): -(n*m)<=Eu A r (fun _=>0) v/\Eu A r (fun _=>0) v<=0 :=
 ⟨qbj (UG hm hc n v)<|Jv (TB hq hA) (fun v=>K3 A v<|qai n) r v,qbj (Ju A r v)<|K3 A v<|qai r⟩
theorem Ra(a b:Int):a<b\/b<=a:=by omega
def BU(f:Nat->Int):Nat->Int
 |0=>0
 |k+1=>BU f k+f k
theorem CT{f g:Nat->Int}:∀{k:Nat},(∀i,i<k->f i=g i)->BU f k=BU g k
 |0,_=>rfl
 |k+1,h=>by
  show BU f k+f k=BU g k+g k;rw[CT fun i hi=>h i<|by omega,h k<|by omega]
theorem Ml(f g:Nat->Int):∀k,BU (fun i=>f i+g i) k=BU f k+BU g k
 |0=>rfl
 |k+1=>by
  show BU _ k+(f k+g k)=(BU f k+f k)+(BU g k+g k);rw[Ml f g k];omega
theorem PN(f:Nat->Int):∀k,BU (fun i => -f i) k = -BU f k
 |0=>rfl
 |k+1=>by
  show BU _ k + -f k = -(BU f k+f k);rw[PN f k];omega
theorem Jw(f g:Nat->Int)(k:Nat):BU (fun i=>f i - g i) k=BU f k - BU g k:=by
 have h:=Ml f (fun i => -g i) k;rw[PN]at h;exact h
theorem PO(c:Int)(f:Nat->Int):∀k,BU (fun i=>c*f i) k=c*BU f k
 |0=>by show(0:Int)=c*0;omega
 |k+1=>by
  show BU _ k+c*f k=c*(BU f k+f k);rw[PO c f k,Int.mul_add]
theorem G9:∀k,BU (fun _=>0) k=0
 |0=>rfl
 |k+1=>by show BU _ k+0=0;rw[G9 k];rfl
theorem GA{f:Nat->Int}:∀{k:Nat},(∀i,i<k->0<=f i)->0<=BU f k
 |0,_=>qa4 _
 |k+1,h=>by
  have:=GA (k:=k) fun i hi=>h i (by omega);have:=h k (by omega);show 0<=BU f k+f k;omega
theorem Ja(h:∀i,i<k->f i<=g i):BU f k<=BU g k:=by
 have h1:=GA (f:=fun i=>g i - f i) (k:=k) fun i hi=>by have:=h i hi;omega
 rw[Jw]at h1;omega
theorem PR{f:Nat->Int}:∀{k:Nat} {j:Nat},(∀i,i<k->0<=f i)->j<k->0<f j->0<BU f k
 |k+1,j,h,hj,hp=>by
  show 0<BU f k+f k;have h1:=GA (k:=k) fun i hi=>h i (by omega);have h2:=h k<|by omega
  by_cases e:j=k
  .subst e;omega
  .have:=PR (k:=k) (j:=j) (fun i hi=>h i<|by omega) (by omega) hp;omega
theorem Rb(f:Nat->Nat->Int)(m:Nat):∀k,BU (fun i=>BU (f i) m) k=BU (fun j=>BU (fun i=>f i j) k) m
 |0=>(G9 m).symm
 |k+1=>by
  show BU _ k+BU (f k) m=BU (fun j=>BU (fun i=>f i j) k+f k j) m;rw[Ml,Rb f m k]
def one(b:Prop)[Decidable b]:Int:=if b then 1 else 0
theorem Io(g:Nat->Int){u:Nat}:∀{k:Nat},u<k->BU (fun v=>one (u=v)*g v) k=g u
 |k+1,h=>by
  show BU _ k+one (u=k)*g k=g u
  by_cases e:u=k
  .subst e
   have h1:BU (fun v=>one (u=v)*g v) u=BU (fun _=>0) u:=CT fun i hi=>by
    unfold one;rw[if_neg<|by omega];omega
   rw[h1,G9,one,if_pos rfl];omega
  .rw[Io g (by omega:u<k),one,if_neg e];omega
structure Gr where
 N:Nat
 E:Nat
 f:Nat->Nat
 t:Nat->Nat
 co:Nat->Int
structure Gr.Ok(g:Gr):Prop where
 f:∀i,i<g.E->g.f i<g.N
 t:∀i,i<g.E->g.t i<g.N
def Em(g:Gr)(x:Nat->Int)(k v:Nat):Int:=BU (fun i=>(one (g.t i=v) - one (g.f i=v))*x i) k
def BJ(g:Gr)(x:Nat->Int)(v:Nat):Int:=Em g x g.E v
def Ot(g:Gr)(x:Nat->Int):Int:=BU (fun i=>x i*g.co i) g.E
theorem TC(g:Gr)(hg:g.Ok)(x r:Nat->Int):BU (fun v=>BJ g x v*r v) g.N=BU (fun i=>(r (g.t i) - r (g.f i))*x i) g.E:=by
 have h1:BU (fun v=>BJ g x v*r v) g.N=BU (fun v=>BU (fun i=>(one (g.t i=v) - one (g.f i=v))*x i*r v) g.E) g.N:=CT fun v _=>by
  unfold BJ Em;rw[qc9,<-PO];exact CT fun i _=>by rw[qc9]
 rw[h1,<-Rb];refine CT fun i hi=>?_
 have h2:BU (fun v=>(one (g.t i=v) - one (g.f i=v))*x i*r v) g.N=BU (fun v=>one (g.t i=v)*(x i*r v) - one (g.f i=v)*(x i*r v)) g.N:=CT fun v _=>by
  rw[Int.mul_assoc,Int.sub_mul]
 rw[h2,Jw,Io (fun v=>x i*r v)<|hg.t i hi,Io (fun v=>x i*r v)<|hg.f i hi,Int.sub_mul,qc9<|r _,qc9<|r _]
theorem over_all(g:Gr)(hg:g.Ok)(x:Nat->Int):BU (BJ g x) g.N=0:=by
 have h:=TC g hg x fun _=>1;have h1:BU (fun v=>BJ g x v*1) g.N=BU (BJ g x) g.N:=CT fun v _=>by omega
 rw[<-h1,h];have h2:BU (fun i=>((1:Int) - 1)*x i) g.E=BU (fun _=>0) g.E:=CT fun i _=>by omega
 rw[h2,G9]
def Gr.u(g:Gr)(a:Nat):Nat:=if a % 2=0 then g.f (a / 2)else g.t (a / 2)
def Gr.v(g:Gr)(a:Nat):Nat:=if a % 2=0 then g.t (a / 2)else g.f (a / 2)
def Gr.c(g:Gr)(a:Nat):Int:=if a % 2=0 then g.co (a / 2)else -g.co (a / 2)
def C3(cap x:Nat->Int)(a:Nat):Int:=if a % 2=0 then cap (a / 2) - x (a / 2)else x (a / 2)
def Gr.len(g:Gr)(p:Nat->Int)(a:Nat):Int:=g.c a+p (g.u a) - p (g.v a)
structure Fine(g:Gr)(cap x p:Nat->Int):Prop where
 in':∀i,i<g.E->0<=x i/\x i<=cap i
 fit:∀a,a<2*g.E->0<C3 cap x a->0<=g.len p a
theorem Gr.Ok.u{g:Gr}(h:g.Ok){a:Nat}(ha:a<2*g.E):g.u a<g.N:=by
 unfold Gr.u;split
 .exact h.f _ (by omega)
 .exact h.t _ (by omega)
theorem Gr.Ok.v{g:Gr}(h:g.Ok){a:Nat}(ha:a<2*g.E):g.v a<g.N:=by
 unfold Gr.v;split
 .exact h.t _ (by omega)
 .exact h.f _ (by omega)
theorem Jb(g:Gr)(i:Nat):g.u (2*i)=g.f i/\g.v (2*i)=g.t i/\g.c (2*i)=g.co i:=by
 unfold Gr.u Gr.v Gr.c;rw[if_pos<|by omega,if_pos<|by omega,if_pos<|by omega,show 2*i / 2=i by omega];exact⟨rfl,rfl,rfl⟩
theorem K6(g:Gr)(i:Nat):g.u (2*i+1)=g.t i/\g.v (2*i+1)=g.f i/\g.c (2*i+1) = -g.co i:=by
 unfold Gr.u Gr.v Gr.c;(iterate 3 rw[if_neg<|by omega]);rw[show(2*i+1) / 2=i by omega];exact⟨rfl,rfl,rfl⟩
theorem Fine.fwd{g:Gr}(h:Fine g cap x p)(hi:i<g.E)(hr:x i<cap i):0<=g.co i+p (g.f i) - p (g.t i):=by
 have h1:=h.fit (2*i) (by omega) (by unfold C3;rw[if_pos<|by omega,show 2*i / 2=i by omega];omega);obtain⟨a,b,c⟩:=Jb g i;unfold Gr.len at h1
 rwa [a,b,c]at h1
theorem Fine.bwd{g:Gr}(h:Fine g cap x p)(hi:i<g.E)(hr:0<x i):g.co i+p (g.f i) - p (g.t i)<=0:=by
 have h1:=h.fit (2*i+1) (by omega) (by unfold C3;rw[if_neg<|by omega,show(2*i+1) / 2=i by omega];exact hr);obtain⟨a,b,c⟩:=K6 g i;unfold Gr.len at h1;rw[a,b,c]at h1;omega
theorem Fine.of{g:Gr}(h0:∀i,i<g.E->0<=x i/\x i<=cap i)(h1:∀i,i<g.E->x i<cap i->0<=g.co i+p (g.f i) - p (g.t i))(h2:∀i,i<g.E->0<x i->g.co i+p (g.f i) - p (g.t i)<=0):Fine g cap x p:=by
 refine⟨h0,fun a ha hr=>?_⟩;have hm:a % 2=0\/a % 2=1:=by omega
 unfold Gr.len
 rcases hm with hm|hm
 .obtain⟨b,c,d⟩:=Jb g<|a / 2;rw[show 2*(a / 2)=a by omega]at b c d;rw[b,c,d];unfold C3 at hr;rw[if_pos hm]at hr;exact h1 _ (by omega)<|by omega
 .obtain⟨b,c,d⟩:=K6 g<|a / 2;rw[show 2*(a / 2)+1=a by omega]at b c d;rw[b,c,d];unfold C3 at hr;rw[if_neg<|by omega]at hr;have:=h2 _ (by omega) hr;omega
theorem Fine.best{g:Gr}(hg:g.Ok)(h:Fine g cap x p)(hx:∀v,v<g.N->BJ g x v=0)(hy:∀i,i<g.E->0<=y i/\y i<=cap i)(hyo:∀v,v<g.N->BJ g y v=0):Ot g x<=Ot g y:=by
 have hz:∀z:Nat->Int,(∀v,v<g.N->BJ g z v=0)->Ot g z=BU (fun i=>(g.co i+p (g.f i) - p (g.t i))*z i) g.E:=fun z hz=>by
  have h1:=TC g hg z p;have h2:BU (fun v=>BJ g z v*p v) g.N=BU (fun _=>0) g.N:=CT fun v hv=>by rw[hz v hv];omega
  rw[h2,G9]at h1
  have h3:BU (fun i=>(g.co i+p (g.f i) - p (g.t i))*z i) g.E=BU (fun i=>z i*g.co i - (p (g.t i) - p (g.f i))*z i) g.E:=CT fun i _=>by
   rw[qc9<|z i,<-Int.sub_mul];congr 1;omega
  rw[h3,Jw,<-h1];unfold Ot;omega
 rw[hz x hx,hz y hyo];refine Ja fun i hi=>?_;obtain⟨a,b⟩:=h.in' i hi;obtain⟨c,d⟩:=hy i hi
 rcases Ra (g.co i+p (g.f i) - p (g.t i)) 0 with h5|h5
 .have h6:x i=cap i:=by
   rcases Ra (x i) (cap i)with h7|h7
   .have:=h.fwd hi h7;omega
   .omega
  exact Int.mul_le_mul_of_nonpos_left (by omega)<|by omega
 .rcases Ra 0 (g.co i+p (g.f i) - p (g.t i))with h6|h6
  .have h7:x i=0:=by
    rcases Ra 0 (x i)with h7|h7
    .have:=h.bwd hi h7;omega
    .omega
   exact qdp (by omega)<|by omega
  .rw[show g.co i+p (g.f i) - p (g.t i)=0 by omega];omega
structure Lb where
 d:Nat->Int
 h:Nat->Nat
def le2(d1:Int)(h1:Nat)(d2:Int)(h2:Nat):Prop:=d1<d2\/(d1=d2/\h1<=h2)
theorem le2.trans{a c:Int}{x y:Nat}(h1:le2 a x b y)(h2:le2 b y c z):le2 a x c z:=by unfold le2 at *;omega
theorem le2.refl(a:Int)(x:Nat):le2 a x a x := .inr ⟨rfl,qaq _⟩
def DH(s:Lb)(v:Nat)(d:Int)(h:Nat):Prop:=s.d v = -1\/d<s.d v\/(d=s.d v/\h<s.h v)
instance (s:Lb)(v:Nat)(d:Int)(h:Nat):Decidable (DH s v d h):=by unfold DH;infer_instance
def GC(s:Lb)(v:Nat)(d:Int)(h:Nat):Lb:=⟨fun u=>if u=v then d else s.d u,fun u=>if u=v then h else s.h u⟩
def Gc(s:Lb)(a:Ar):Lb:=if DH s a.2.1 (s.d a.1+a.2.2) (s.h a.1+1)then GC s a.2.1 (s.d a.1+a.2.2) (s.h a.1+1)else s
def Hr(s:Lb)(a:Ar)(hp:List (Int × Nat)):List (Int × Nat):=if DH s a.2.1 (s.d a.1+a.2.2) (s.h a.1+1)then(s.d a.1+a.2.2,a.2.1)::hp else hp
def PS(A:List Ar)(n:Nat)(m:Int):Prop:=∀a∈A,a.1<n/\a.2.1<n/\0<=a.2.2/\a.2.2<=m
structure DJ(A:List Ar)(src:List Nat)(n:Nat)(m:Int)(s:Lb):Prop where
 low:∀v,s.d v = -1\/0<=s.d v
 src':∀v∈src,v<n/\s.d v=0/\s.h v=0
 zero:∀v,s.d v ≠ -1->s.h v=0->v∈src
 none':∀v,s.d v = -1->s.h v=0
 pre:∀v,s.d v ≠ -1->s.h v≠0->∃a∈A,a.2.1=v/\s.d a.1 ≠ -1/\le2 (s.d a.1+a.2.2) (s.h a.1+1) (s.d v) (s.h v)
 walk:∀v,s.d v ≠ -1->∃W:List Nat,W.Nodup/\W.length=s.h v+1/\∀x∈W,x<n/\s.d x ≠ -1/\le2 (s.d x) (s.h x) (s.d v) (s.h v)
 bnd:∀v,s.d v ≠ -1->s.d v<=s.h v*m
def Rlx(s:Lb)(a:Ar):Prop:=s.d a.2.1 ≠ -1/\le2 (s.d a.2.1) (s.h a.2.1) (s.d a.1+a.2.2) (s.h a.1+1)
def Clo(A:List Ar)(s:Lb)(hp:List (Int × Nat))(u:Nat)(done:List Ar):Prop :=
 ∀v,s.d v ≠ -1->(s.d v,v)∈hp\/∀a∈A,a.1=v->(v=u->a∈done)->Rlx s a
def Y1(n:Nat)(m:Int)(s:Lb)(v:Nat):Int:=if s.d v = -1 then n*m*64+64 else s.d v*64+s.h v
def meas(n:Nat)(m:Int)(s:Lb)(hp:List (Int × Nat)):Int:=2*BU (Y1 n m s) n+hp.length
theorem DJ.hops{A:List Ar}{s:Lb}(J:DJ A src n m s){v:Nat}(hv:s.d v ≠ -1):s.h v+1<=n:=by
 obtain⟨W,h1,h2,h3⟩:=J.walk v hv;rw[<-h2];exact K4 n W h1 fun x hx=>(h3 x hx).1
section
variable {A:List Ar}{src:List Nat}{n:Nat}{m:Int}{s:Lb}{hp:List (Int × Nat)}{u:Nat}{dn:List Ar}{a:Ar}
theorem DJ.relax(hA:PS A n m)(hm:0<=m)(hn:n<=60)(J:DJ A src n m s)(K:Clo A s hp u dn)(ha:a∈A)(hu:a.1=u)(hd:s.d u ≠ -1) :
  DJ A src n m (Gc s a)/\Clo A (Gc s a) (Hr s a hp) u (dn++[a])/\(Gc s a).d u=s.d u/\(Gc s a).h u=s.h u/\meas n m (Gc s a) (Hr s a hp)<=meas n m s hp:=by
 subst hu;obtain⟨hu1,hv1,hl0,hlm⟩:=hA a ha;have hdu:=(J.low a.1).resolve_left hd
 by_cases hb:DH s a.2.1 (s.d a.1+a.2.2)<|s.h a.1+1
 .obtain⟨d',hd'⟩:∃d',d'=s.d a.1+a.2.2:=⟨_,rfl⟩;obtain⟨h',hh'⟩:∃h',h'=s.h a.1+1:=⟨_,rfl⟩;obtain⟨v,hv⟩:=qD a.2.1;have hS:Gc s a=GC s v d' h':=by unfold Gc;rw[if_pos hb,hd',hh',hv]
  have hH:Hr s a hp=(d',v)::hp:=by unfold Hr;rw[if_pos hb,hd',hv]
  rw[<-hd',<-hh',<-hv]at hb;rw[<-hv]at hv1
  have hvu:v≠a.1:=fun e=>by
   unfold DH at hb;rw[e]at hb;omega
  rw[hS,hH];have p1:(GC s v d' h').d v=d':=if_pos rfl;have p2:(GC s v d' h').h v=h':=if_pos rfl;have p3:∀x,x≠v->(GC s v d' h').d x=s.d x:=fun x hx=>if_neg hx;have p4:∀x,x≠v->(GC s v d' h').h x=s.h x:=fun x hx=>if_neg hx
  have hsrc:v∉src:=fun hs=>by
   obtain⟨_,q1,q2⟩:=J.src' v hs;unfold DH at hb;rw[q1,q2]at hb;omega
  -- labels become no greater
  have hless:∀x,s.d x ≠ -1->(GC s v d' h').d x ≠ -1/\le2 ((GC s v d' h').d x) ((GC s v d' h').h x) (s.d x) (s.h x):=fun x hx=>by
   by_cases e:x=v
   .subst e;rw[p1,p2];unfold DH at hb;exact⟨by omega,by unfold le2;omega⟩
   .rw[p3 x e,p4 x e];exact⟨hx,le2.refl _ _⟩
  have hadd:∀{x:Nat} (l:Int),s.d x ≠ -1->le2 ((GC s v d' h').d x+l) ((GC s v d' h').h x+1) (s.d x+l) (s.h x+1):=fun{x} l hx=>by
   have:=(hless x hx).2;unfold le2 at *;omega
  -- the way to v
  obtain⟨W,w1,w2,w3⟩:=J.walk a.1 hd
  have hvW:v∉W:=fun hx=>by
   have q:=(w3 v hx).2;unfold DH at hb;unfold le2 at q;omega
  have hWn:(W++[v]).Nodup:=by
   rw[qdy];exact⟨w1,by simp,fun x hx y hy e=>by rw[qab.1 hy]at e;exact hvW<|e ▸ hx⟩
  have hWl:(W++[v]).length=h'+1:=by rw[qat,w2,hh'];rfl
  have hh'n:h'+1<=n:=by
   rw[<-hWl];exact K4 n _ hWn fun x hx=>(qa2.1 hx).elim (fun h=>(w3 x h).1) fun h=>by rw[qab.1 h];exact hv1
  have hbd:d'<=h'*m:=by
   have q:=J.bnd a.1 hd;rw[hd',hh',qc8,Int.add_mul];simp;omega
  have J':DJ A src n m<|GC s v d' h':=by
   refine⟨fun x=>?_,fun x hx=>?_,fun x hx h0=>?_,fun x hx=>?_,fun x hx h0=>?_,fun x hx=>?_,fun x hx=>?_⟩
   .by_cases e:x=v
    .subst e;rw[p1];omega
    .rw[p3 x e];exact J.low x
   .have e:x≠v:=fun e=>hsrc<|e ▸ hx;rw[p3 x e,p4 x e];exact J.src' x hx
   .by_cases e:x=v
    .subst e;rw[p2]at h0;omega
    .rw[p3 x e]at hx;rw[p4 x e]at h0;exact J.zero x hx h0
   .by_cases e:x=v
    .subst e;rw[p1]at hx;omega
    .rw[p3 x e]at hx;rw[p4 x e];exact J.none' x hx
   .by_cases e:x=v
    .subst e;refine⟨a,ha,hv.symm,?_,?_⟩
     .rw[p3 _<|Ne.symm hvu];exact hd
     .rw[p1,p2,p3 _<|Ne.symm hvu,p4 _<|Ne.symm hvu,<-hd',<-hh'];exact le2.refl _ _
    .rw[p3 x e]at hx |-;rw[p4 x e]at h0 |-;obtain⟨b,hb1,hb2,hb3,hb4⟩:=J.pre x hx h0;exact⟨b,hb1,hb2,(hless _ hb3).1,(hadd _ hb3).trans hb4⟩
   .by_cases e:x=v
    .subst e;refine⟨W++[x],hWn,by rw[hWl,p2],fun y hy=>?_⟩;rw[p1,p2]
     rcases qa2.1 hy with hy|hy
     .obtain⟨q1,q2,q3⟩:=w3 y hy;refine⟨q1,(hless y q2).1,(hless y q2).2.trans<|q3.trans ?_⟩;unfold le2;omega
     .rw[qab.1 hy,p1,p2];exact⟨hv1,by omega,le2.refl _ _⟩
    .rw[p3 x e]at hx |-;rw[p4 x e];obtain⟨W2,q1,q2,q3⟩:=J.walk x hx;exact⟨W2,q1,q2,fun y hy=>⟨(q3 y hy).1,(hless y (q3 y hy).2.1).1,(hless y (q3 y hy).2.1).2.trans (q3 y hy).2.2⟩⟩
   .by_cases e:x=v
    .subst e;rw[p1,p2];exact hbd
    .rw[p3 x e]at hx |-;rw[p4 x e];exact J.bnd x hx
  have hval:∀x,Y1 n m (GC s v d' h') x<=Y1 n m s x - one (v=x):=fun x=>by
   by_cases e:x=v
   .subst e;unfold one;rw[if_pos rfl];unfold Y1;rw[p1,p2,if_neg<|show ¬d' = -1 by omega]
    split
    .have q:(h':Int)*m<=(n:Int)*m:=qeh (by omega) hm;omega
    .have q1:=(J.low x).resolve_left ‹_›;unfold DH at hb;omega
   .have e1:one (v=x)=0:=if_neg fun h=>e h.symm;unfold Y1;rw[p3 x e,p4 x e,e1,Int.sub_zero];exact qa4 _
  refine⟨J',fun x hx=>?_,p3 _<|Ne.symm hvu,p4 _<|Ne.symm hvu,?_⟩
  .by_cases e:x=v
   .subst e;left;rw[p1];exact qah ..
   .rw[p3 x e]at hx |-
    rcases K x hx with q|q
    .exact .inl (qae _ q)
    .refine .inr fun b hb1 hb2 hb3=>?_
     by_cases eb:b=a
     .subst eb;refine⟨by rw[<-hv,p1];omega,?_⟩;rw[<-hv,p1,p2,p3 _<|Ne.symm hvu,p4 _<|Ne.symm hvu,<-hd',<-hh'];exact le2.refl _ _
     .obtain⟨r1,r2⟩:=q b hb1 hb2 fun h=>(qa2.1<|hb3 h).resolve_right fun h=>eb<|qab.1 h;refine⟨(hless _ r1).1,(hless _ r1).2.trans ?_⟩;have eb1:b.1≠v:=by rw[hb2];exact e
      rw[p3 _ eb1,p4 _ eb1];exact r2
  .unfold meas;have q1:=Ja (k:=n) fun i _=>hval i;rw[Jw]at q1;have q2:=Io (fun _=>(1:Int)) hv1;have q3:BU (fun x=>one<|v=x) n=BU (fun x=>one (v=x)*1) n:=CT fun i _=>by omega
   rw[<-q3]at q2;rw[qbd];omega
 .have hS:Gc s a=s:=by unfold Gc;rw[if_neg hb]
  have hH:Hr s a hp=hp:=by unfold Hr;rw[if_neg hb]
  rw[hS,hH];refine⟨J,fun x hx=>?_,rfl,rfl,qa4 _⟩
  rcases K x hx with q|q
  .exact .inl q
  .refine .inr fun b hb1 hb2 hb3=>?_
   by_cases eb:b=a
   .subst eb;unfold DH at hb;unfold Rlx le2;omega
   .exact q b hb1 hb2 fun h=>(qa2.1<|hb3 h).resolve_right fun h=>eb<|qab.1 h
def lb0(src:List Nat):Lb:=⟨fun v=>if v∈src then 0 else -1,fun _=>0⟩
theorem DJ.start(hs:∀v∈src,v<n):DJ A src n m<|lb0 src:=by
 have h1:∀v,(lb0 src).d v ≠ -1->v∈src:=fun v hv=>Classical.byContradiction fun h=>hv<|if_neg h;refine⟨fun v=>?_,fun v hv=>⟨hs v hv,if_pos hv,rfl⟩,fun v hv _=>h1 v hv,fun v _=>rfl,fun v _ h=>absurd rfl h,fun v hv=>⟨[v],by simp,rfl,fun x hx=>?_⟩,fun v hv=>?_⟩
 .unfold lb0;dsimp only;split
  .exact .inr (qa4 _)
  .exact .inl U
 .rw[qab.1 hx];exact⟨hs v<|h1 v hv,hv,le2.refl _ _⟩
 .have:(lb0 src).d v=0:=if_pos (h1 v hv)
  rw[this];show(0:Int)<=((0:Nat):Int)*m;omega
structure Done(A:List Ar)(src:List Nat)(n:Nat)(m:Int)(s:Lb):Prop where
 J:DJ A src n m s
 arc:∀a∈A,s.d a.1 ≠ -1->s.d a.2.1 ≠ -1/\s.d a.2.1<=s.d a.1+a.2.2
 pre:∀v,s.d v ≠ -1->s.h v≠0->∃a∈A,a.2.1=v/\s.d a.1 ≠ -1/\s.d a.1+a.2.2=s.d v/\s.h a.1+1=s.h v
theorem DJ.ends(J:DJ A src n m s)(K:Clo A s [] u A):Done A src n m s:=by
 have hr:∀a∈A,s.d a.1 ≠ -1->Rlx s a:=fun a ha h=>(K a.1 h).elim (fun h=>by cases h) fun h=>h a ha rfl fun _=>ha;refine⟨J,fun a ha h=>?_,fun v hv h0=>?_⟩
 .obtain⟨h1,h2⟩:=hr a ha h;exact⟨h1,by unfold le2 at h2;omega⟩
 .obtain⟨a,ha,h1,h2,h3⟩:=J.pre v hv h0;obtain⟨h4,h5⟩:=hr a ha h2;rw[h1]at h5;refine⟨a,ha,h1,h2,?_,?_⟩
  .unfold le2 at h3 h5;omega
  .unfold le2 at h3 h5;omega
end
def K8(g:Gr)(cap x p:Nat->Int):List Ar:=((List.range (2*g.E)).filter fun a=>decide (0<C3 cap x a)).map fun a=>(g.u a,g.v a,g.len p a)
theorem Jc{g:Gr}{b:Ar}:b∈K8 g cap x p↔∃a,a<2*g.E/\0<C3 cap x a/\b=(g.u a,g.v a,g.len p a):=by
 unfold K8;rw[qak];constructor
 .rintro⟨a,ha,rfl⟩;rw[qbc,qa5,qav]at ha;exact⟨a,ha.1,ha.2,rfl⟩
 .rintro⟨a,h1,h2,rfl⟩;exact⟨a,qbc.2 ⟨qa5.2 h1,qam h2⟩,rfl⟩
theorem Fine.arcs{g:Gr}(hg:g.Ok)(h:Fine g cap x p)(hm:∀a,a<2*g.E->g.len p a<=m):PS (K8 g cap x p) g.N m:=fun b hb=>by
 obtain⟨a,h1,h2,rfl⟩:=Jc.1 hb;exact⟨hg.u h1,hg.v h1,h.fit a h1 h2,hm a h1⟩
theorem reach{g:Gr}(hg:g.Ok)(h:Fine g cap x p){s:Lb}(D:Done (K8 g cap x p) src g.N m s){v:Nat}(hv:v<g.N)(hd:s.d v ≠ -1)(ho:0<BJ g x v):∃w,w<g.N/\s.d w ≠ -1/\BJ g x w<0:=by
 refine Classical.byContradiction fun hn=>?_;obtain⟨r,hr⟩:=qD (fun v=>if s.d v ≠ -1 then 1 else 0:Nat->Int);have hr1:∀{v:Nat},s.d v ≠ -1->r v=1:=fun{v} h=>by rw[hr];exact if_pos h
 have hr0:∀{v:Nat},s.d v = -1->r v=0:=fun{v} h=>by rw[hr];exact if_neg fun h2=>h2 h
 have h1:0<BU (fun v=>BJ g x v*r v) g.N:=by
  refine PR (j:=v) (fun w hw=>?_) hv (by rw[hr1 hd];omega)
  by_cases e:s.d w = -1
  .rw[hr0 e];omega
  .rw[hr1 e];have:=Int.not_lt.1 fun h5=>hn ⟨w,hw,e,h5⟩;omega
 rw[TC g hg x r]at h1
 have h2:BU (fun i=>(r (g.t i) - r (g.f i))*x i) g.E<=BU (fun _=>0) g.E:=Ja fun i hi=>by
  obtain⟨hx0,hx1⟩:=h.in' i hi
  by_cases e1:s.d (g.t i) = -1
  .rw[hr0 e1]
   by_cases e2:s.d (g.f i) = -1
   .rw[hr0 e2];omega
   .rw[hr1 e2];omega
  .rw[hr1 e1]
   by_cases e2:s.d (g.f i) = -1
   .have e3:x i=0:=by
     rcases Ra 0 (x i)with h5|h5
     .exfalso;obtain⟨a1,a2,a3⟩:=K6 g i;have:=D.arc _ (Jc.2 ⟨2*i+1,by omega,by unfold C3;rw[if_neg<|by omega,show(2*i+1) / 2=i by omega];exact h5,rfl⟩) (by dsimp only;rw[a1];exact e1);dsimp only at this;rw[a2]at this;exact this.1 e2
     .omega
    rw[e3];omega
   .rw[hr1 e2];omega
 rw[G9]at h2;omega
structure Way1(g:Gr)(cap x p:Nat->Int)(s:Lb)(a:Nat):Prop where
 lt:a<2*g.E
 room:0<C3 cap x a
 du:s.d (g.u a) ≠ -1
 dv:s.d (g.v a) ≠ -1
 d:s.d (g.u a)+g.len p a=s.d (g.v a)
 h:s.h (g.u a)+1=s.h (g.v a)
def Bys(g:Gr)(cap x p:Nat->Int)(s:Lb)(by':Nat->Option Nat):Prop :=
 (∀v,s.d v = -1\/s.h v=0->by' v=none)/\∀v,s.d v ≠ -1->s.h v≠0->∃a,by' v=some a/\Way1 g cap x p s a/\g.v a=v
def DC(by':Nat->Option Nat)(g:Gr):Nat->Nat->List Nat
 |0,_=>[]
 |k+1,v=>match by' v with
  |none=>[]
  |some a=>a::DC by' g k (g.u a)
def LP(by':Nat->Option Nat)(g:Gr):Nat->Nat->Nat
 |0,v=>v
 |k+1,v=>match by' v with
  |none=>v
  |some a=>LP by' g k (g.u a)
section
variable {g:Gr}{cap x p:Nat->Int}{s:Lb}{by':Nat->Option Nat}
theorem G0{v a:Nat}(h:by' v=some a):DC by' g (k+1) v=a::DC by' g k (g.u a)/\LP by' g (k+1) v=LP by' g k (g.u a):=by
 constructor
 .show(match by' v with|none=>[]|some a=>a::DC by' g k (g.u a))=_;rw[h]
 .show(match by' v with|none=>v|some a=>LP by' g k<|g.u a)=_;rw[h]
theorem Jx(hB:Bys g cap x p s by'):∀{k v:Nat},s.d v ≠ -1->s.h v=k->(∀a∈DC by' g k v,Way1 g cap x p s a/\s.h (g.v a)<=k)/\(DC by' g k v).Pairwise (fun a b=>s.h (g.v b)<s.h (g.v a))/\s.d (LP by' g k v) ≠ -1/\s.h (LP by' g k v)=0
 |0,v,hd,hk=>⟨(fun a h=>by cases h),List.Pairwise.nil,hd,hk⟩
 |k+1,v,hd,hk=>by
  obtain⟨a,h1,h2,h3⟩:=hB.2 v hd (by omega);obtain⟨e1,e2⟩:=G0 (g:=g) (k:=k) h1;have hh:=h2.h;rw[h3,hk]at hh;obtain⟨q1,q2,q3,q4⟩:=Jx hB (k:=k) h2.du (by omega);rw[e1,e2];refine⟨fun b hb=>?_,List.Pairwise.cons (fun b hb=>?_) q2,q3,q4⟩
  .rcases qaf.1 hb with rfl|hb
   .exact⟨h2,by rw[h3];omega⟩
   .exact⟨(q1 b hb).1,by have:=(q1 b hb).2;omega⟩
  .have:=(q1 b hb).2;rw[h3];omega
theorem MW(hB:Bys g cap x p s by'){v:Nat}(hd:s.d v ≠ -1)(hk:s.h v=k):(DC by' g k v).Pairwise fun a b=>a / 2≠b / 2:=by
 obtain⟨q1,q2,-,-⟩:=Jx hB hd hk;refine List.Pairwise.imp_of_mem (R:=fun a b=>s.h (g.v b)<s.h (g.v a)) (fun{a b} ha hb hab he=>?_) q2;have wa:=(q1 a ha).1;have wb:=(q1 b hb).1;have h1:=wa.h;have h2:=wb.h
 by_cases e:a=b
 .rw[e]at hab;omega
 .have hm:a % 2≠b % 2:=by omega
  have e1:g.u a=g.v b:=by
   unfold Gr.u Gr.v;rw[he]
   split
   .rw[if_neg<|by omega]
   .rw[if_pos<|by omega]
  have e2:g.v a=g.u b:=by
   unfold Gr.u Gr.v;rw[he]
   split
   .rw[if_neg<|by omega]
   .rw[if_pos<|by omega]
  rw[e1]at h1;rw[e2]at h1 hab;omega
end
def HO(m:Int)(x:Nat->Int)(a:Nat):Nat->Int:=fun i=>if i=a / 2 then(if a % 2=0 then x i+m else x i - m)else x i
def Fa(m:Int)(x:Nat->Int)(l:List Nat):Nat->Int:=l.foldl (HO m) x
theorem Ou(g:Gr)(m:Int)(x:Nat->Int){a:Nat}(ha:a<2*g.E)(w:Nat):BJ g (HO m x a) w=BJ g x w+m*(one (g.v a=w) - one (g.u a=w)):=by
 have hi:a / 2<g.E:=by omega
 have h1:BJ g (HO m x a) w=BU (fun i=>(one (g.t i=w) - one (g.f i=w))*x i+one (a / 2=i)*((one (g.t i=w) - one (g.f i=w))*(if a % 2=0 then m else -m))) g.E:=CT fun i _=>by
  by_cases e:i=a / 2
  .have h1:HO m x a i=if a % 2=0 then x i+m else x i - m:=if_pos e;have h2:one (a / 2=i)=1:=if_pos e.symm;rw[h1,h2]
   by_cases hp:a % 2=0
   .rw[if_pos hp,if_pos hp,Int.mul_add,Int.one_mul]
   .rw[if_neg hp,if_neg hp,Int.mul_sub,Int.one_mul,Int.mul_neg];omega
  .have h1:HO m x a i=x i:=if_neg e;have h2:one (a / 2=i)=0:=if_neg<|Ne.symm e;rw[h1,h2];omega
 rw[h1,Ml,Io (fun i=>(one (g.t i=w) - one (g.f i=w))*(if a % 2=0 then m else -m)) hi];unfold BJ Em Gr.u Gr.v
 split
 .rw[qc9 m]
 .congr 1
  rw[Int.mul_neg,<-Int.neg_mul,qc9 m];congr 1;omega
theorem LQ(g:Gr)(m:Int){cap p:Nat->Int}{x0:Nat->Int}{s:Lb}{by':Nat->Option Nat}(hB:Bys g cap x0 p s by')(w:Nat):∀{k v:Nat} (x:Nat->Int),s.d v ≠ -1->s.h v=k->BJ g (Fa m x<|DC by' g k v) w=BJ g x w+m*(one (v=w) - one (LP by' g k v=w))
 |0,v,x,_,_=>by
  show BJ g x w=BJ g x w+m*(one (v=w) - one (v=w));rw[Int.sub_self];omega
 |k+1,v,x,hd,hk=>by
  obtain⟨a,h1,h2,h3⟩:=hB.2 v hd (by omega);obtain⟨e1,e2⟩:=G0 (g:=g) (k:=k) h1;have hh:=h2.h;rw[h3,hk]at hh;rw[e1,e2];show BJ g (Fa m (HO m x a)<|DC by' g k<|g.u a) w=_;rw[LQ g m hB w (k:=k) (HO m x a) h2.du<|by omega,Ou g m x h2.lt,h3,Int.add_assoc,<-Int.mul_add]
  congr 2;omega
theorem Ip{m:Int}{x:Nat->Int}:∀{l:List Nat} {i:Nat},(∀a∈l,a / 2≠i)->Fa m x l i=x i
 | [],i,_=>rfl
 |a::l,i,h=>by
  show Fa m (HO m x a) l i=_;rw[Ip (l:=l) fun b hb=>h b<|qae _ hb];exact if_neg fun e=>h a (qah ..) e.symm
theorem UI{m:Int}:∀{l:List Nat} {x:Nat->Int} {a:Nat},l.Pairwise (fun a b=>a / 2≠b / 2)->a∈l->Fa m x l (a / 2)=if a % 2=0 then x (a / 2)+m else x (a / 2) - m
 |b::l,x,a,hp,ha=>by
  obtain⟨h1,h2⟩:=qbf.1 hp;show Fa m (HO m x b) l (a / 2)=_
  by_cases e:a=b
  .subst e;rw[Ip fun c hc=>Ne.symm<|h1 c hc];exact if_pos U
  .have ha':=(qaf.1 ha).resolve_left e;rw[UI h2 ha']
   have:HO m x b (a / 2)=x (a / 2):=if_neg<|Ne.symm<|h1 a ha'
   rw[this]
def PT(s:Lb)(D:Int)(v:Nat):Int:=if s.d v<0\/D<s.d v then D else s.d v
theorem VQ{g:Gr}(h:Fine g cap x p){s:Lb}(D:Done (K8 g cap x p) src g.N m0 s){by':Nat->Option Nat}(hB:Bys g cap x p s by'){v:Nat}(hd:s.d v ≠ -1)(hr:∀a∈DC by' g (s.h v) v,m<=C3 cap x a)(hm:0<=m:=by omega):
  Fine g cap (Fa m x<|DC by' g (s.h v) v) (fun w=>p w+PT s (s.d v) w):=by
 obtain⟨q1,-,-,-⟩:=Jx hB hd rfl;have hpe:=MW hB hd rfl;have hlow:=D.J.low;have hdv:=(hlow v).resolve_left hd
 have hlen:∀a,a<2*g.E->0<C3 cap x a->0<=g.len p a+PT s (s.d v) (g.u a) - PT s (s.d v) (g.v a):=fun a ha hra=>by
  have h1:=h.fit a ha hra;have h2:=D.arc _<|Jc.2 ⟨a,ha,hra,rfl⟩;dsimp only at h2;have h3:=hlow<|g.u a;have h4:=hlow<|g.v a;unfold PT
  by_cases e:s.d (g.u a) = -1
  .rw[if_pos<|.inl<|by omega]
   split <;> omega
  .obtain⟨h5,h6⟩:=h2 e
   split <;> split <;> omega
 have htight:∀a∈DC by' g (s.h v) v,g.len p a+PT s (s.d v) (g.u a) - PT s (s.d v) (g.v a)=0:=fun a ha=>by
  -- all nodes of the way are no farther
  have hle:∀{k w:Nat},s.d w ≠ -1->s.h w=k->∀a∈DC by' g k w,s.d (g.v a)<=s.d w:=fun{k}=>by
   induction k with
   |zero=>intro w _ _ a ha;cases ha
   |succ k ih =>
    intro w hw hk a ha;obtain⟨b,h1,h2,h3⟩:=hB.2 w hw (by omega);obtain⟨e1,-⟩:=G0 (g:=g) (k:=k) h1;rw[e1]at ha;have hh:=h2.h;rw[h3,hk]at hh;have hfit:=h.fit b h2.lt h2.room;have hdd:=h2.d;rw[h3]at hdd
    rcases qaf.1 ha with rfl|ha
    .rw[h3];exact qa4 _
    .have:=ih h2.du (by omega) a ha;omega
  have h1:=hle hd rfl a ha;have w1:=(q1 a ha).1;have h2:=(hlow<|g.u a).resolve_left w1.du;have h3:=(hlow<|g.v a).resolve_left w1.dv;have h4:=w1.d;have h5:=h.fit a w1.lt w1.room;unfold PT;rw[if_neg<|by omega,if_neg<|by omega];omega
 have hone:∀i,i<g.E->(Fa m x (DC by' g (s.h v) v) i=x i/\∀a∈DC by' g (s.h v) v,a / 2≠i)\/∃a∈DC by' g (s.h v) v,a / 2=i:=fun i _=>by
  by_cases e:∃a∈DC by' g (s.h v) v,a / 2=i
  .exact .inr e
  .have:∀a∈DC by' g (s.h v) v,a / 2≠i:=fun a ha he=>e ⟨a,ha,he⟩
   exact .inl ⟨Ip this,this⟩
 have hz:∀i,i<g.E->(∃a∈DC by' g (s.h v) v,a / 2=i)->g.co i+(p (g.f i)+PT s (s.d v) (g.f i)) - (p (g.t i)+PT s (s.d v) (g.t i))=0:=fun i hi ⟨a,ha,he⟩=>by
  have h1:=htight a ha;unfold Gr.len at h1
  rcases(by omega:a=2*i\/a=2*i+1)with rfl|rfl
  .obtain⟨b,c,d⟩:=Jb g i;rw[b,c,d]at h1;omega
  .obtain⟨b,c,d⟩:=K6 g i;rw[b,c,d]at h1;omega
 refine Fine.of (fun i hi=>?_) (fun i hi hx=>?_) fun i hi hx=>?_
 .obtain⟨h1,h2⟩:=h.in' i hi
  rcases hone i hi with⟨e,_⟩|⟨a,ha,he⟩
  .rw[e];exact⟨h1,h2⟩
  .have h3:=hr a ha;have h4:=UI (m:=m) (x:=x) hpe ha;rw[he]at h4;rw[h4];unfold C3 at h3;rw[he]at h3
   split
   .rename_i e;rw[if_pos e]at h3;omega
   .rename_i e;rw[if_neg e]at h3;omega
 .rcases hone i hi with⟨e,_⟩|e
  .rw[e]at hx;have h1:=hlen (2*i) (by omega) (by unfold C3;rw[if_pos<|by omega,show 2*i / 2=i by omega];omega);obtain⟨b,c,d⟩:=Jb g i;unfold Gr.len at h1;rw[b,c,d]at h1;omega
  .have:=hz i hi e;omega
 .rcases hone i hi with⟨e,_⟩|e
  .rw[e]at hx;have h1:=hlen (2*i+1) (by omega) (by unfold C3;rw[if_neg<|by omega,show(2*i+1) / 2=i by omega];exact hx);obtain⟨b,c,d⟩:=K6 g i;unfold Gr.len at h1;rw[b,c,d]at h1;omega
  .have:=hz i hi e;omega
def Y2(x:Int):Int:=if 0<x then x else 0
def GF(g:Gr)(x:Nat->Int):Int:=BU (fun v=>Y2 (BJ g x v)) g.N
theorem Rc{g:Gr}(hg:g.Ok)(h:∀v,v<g.N->BJ g x v<=0):∀v,v<g.N->BJ g x v=0:=fun v hv=>by
 have h1:=over_all g hg x
 rcases Ra (BJ g x v) 0 with h2|h2
 .have h3:=PR (f:=fun v => -BJ g x v) (k:=g.N) (j:=v) (fun i hi=>by have:=h i hi;omega) hv (by omega);rw[PN,h1]at h3;omega
 .have:=h v hv;omega
theorem VR{g:Gr}{u v:Nat}(hmu:m<=BJ g x u)(hmv:m <= -BJ g x v)(h:∀w,BJ g x' w=BJ g x w+m*(one (v=w) - one (u=w)))(hu:u<g.N:=by omega)(hm:0<m:=by omega):GF g x'+m<=GF g x:=by
 have hne:u≠v:=fun e=>by subst e;omega
 have h1:∀w,Y2 (BJ g x' w)<=Y2 (BJ g x w) - one (u=w)*m:=fun w=>by
  rw[h w];unfold one Y2
  by_cases e1:v=w
  .subst e1;rw[if_pos rfl,if_neg hne]
   split <;> split <;> omega
  .rw[if_neg e1]
   by_cases e2:u=w
   .subst e2;rw[if_pos rfl]
    split <;> split <;> omega
   .rw[if_neg e2]
    split <;> split <;> omega
 have h2:=Ja (k:=g.N) fun w _=>h1 w;rw[Jw,Io (fun _=>m) hu]at h2;unfold GF;omega
theorem VS(g:Gr)(x:Nat->Int):0<=GF g x:=GA fun i _=>by unfold Y2;split <;> omega
def IG(g:Gr)(cap' x p:Nat->Int)(i:Nat):Int:=if 2*x i<cap' i/\g.co i+p (g.f i) - p (g.t i)<0 then cap' i else 2*x i
theorem MX{g:Gr}(h:Fine g cap x p)(hc:∀i,i<g.E->2*cap i<=cap' i/\cap' i<=2*cap i+1):Fine g cap' (IG g cap' x p) p:=by
 refine Fine.of (fun i hi=>?_) (fun i hi hx=>?_) fun i hi hx=>?_
 .obtain⟨h1,h2⟩:=h.in' i hi;obtain⟨h3,h4⟩:=hc i hi;unfold IG;split <;> omega
 .unfold IG at hx
  split at hx
  .omega
  .rename_i h5
   rcases Ra (g.co i+p (g.f i) - p (g.t i)) 0 with h6|h6
   .exact absurd ⟨hx,h6⟩ h5
   .exact h6
 .unfold IG at hx
  split at hx
  .rename_i h5;omega
  .exact h.bwd hi (by omega)
def Hs(g:Gr)(cap' x p:Nat->Int)(k i:Nat):Int:=if i<k then IG g cap' x p i else 2*x i
theorem Y3{g:Gr}{v:Nat}(h:BJ g x v=0):BJ g (Hs g cap' x p 0) v=0:=by
 have h1:BJ g (Hs g cap' x p 0) v=BU (fun i=>2*((one (g.t i=v) - one (g.f i=v))*x i)) g.E:=CT fun i _=>by
  unfold Hs;rw[if_neg<|by omega,Int.mul_left_comm]
 rw[h1,PO];show 2*BJ g x v=0;omega
theorem Y4{g:Gr}(v:Nat)(hk:k<g.E:=by omega):BJ g (Hs g cap' x p<|k+1) v=BJ g (Hs g cap' x p k) v+(IG g cap' x p k - 2*x k)*(one (g.t k=v) - one (g.f k=v)):=by
 obtain⟨b,c,-⟩:=Jb g k;have h:=Ou g (IG g cap' x p k - 2*x k) (Hs g cap' x p k) (a:=2*k) (by omega) v;rw[b,c]at h;rw[<-h]
 congr 1
 funext i
 have m1:∀{k:Nat},i<k->Hs g cap' x p k i=IG g cap' x p i:=fun h=>if_pos h;have m2:∀{k:Nat},¬i<k->Hs g cap' x p k i=2*x i:=fun h=>if_neg h;unfold HO;rw[show 2*k / 2=k by omega,if_pos<|show 2*k % 2=0 by omega]
 by_cases e:i=k
 .subst e;rw[if_pos rfl,m1<|by omega,m2<|by omega];omega
 .rw[if_neg e]
  by_cases e2:i<k
  .rw[m1<|by omega,m1 e2]
  .rw[m2<|by omega,m2 e2]
theorem Ace{g:Gr}(hi:i<g.E):Hs g cap' x p g.E i=IG g cap' x p i:=if_pos hi
theorem JT{g:Gr}(h:∀i,i<g.E->x i=y i)(v:Nat):BJ g x v=BJ g y v:=CT fun i hi=>by rw[h i hi]
theorem GG{g:Gr}{x:Nat->Int}{c:Int}(v:Nat):∀{k:Nat},(∀i,i<k->0<=x i/\x i<=c) -> -(k*c)<=Em g x k v/\Em g x k v<=k*c
 |0,_=>by show -(((0:Nat):Int)*c)<=0/\(0:Int)<=((0:Nat):Int)*c;omega
 |k+1,h=>by
  obtain⟨h1,h2⟩:=GG (g:=g) v (k:=k) fun i hi=>h i (by omega);obtain⟨h3,h4⟩:=h k (by omega);have e:((k+1:Nat):Int)*c=k*c+c:=by rw[qc8,Int.add_mul];simp
  show _<=Em g x k v+(one (g.t k=v) - one (g.f k=v))*x k/\Em g x k v+(one (g.t k=v) - one (g.f k=v))*x k<=_;rw[e];unfold one
  split <;> split <;> omega
theorem Rg{g:Gr}(h:Fine g cap x p):Fea (((List.range<|2*g.E).filter fun a=>decide (0<C3 cap x a)).map fun a=>(g.u a,g.v a,g.c a)) p:=fun b hb=>by
 rw[qak]at hb;obtain⟨a,ha,rfl⟩:=hb;rw[qbc,qa5,qav]at ha;have:=h.fit a ha.1 ha.2;unfold Gr.len at this;dsimp only;omega
theorem Y5{g:Gr}(h:Fine g cap x p)(hq:Fea (((List.range<|2*g.E).filter fun a=>decide (0<C3 cap x a)).map fun a=>(g.u a,g.v a,g.c a)) q):Fine g cap x q:=by
 refine⟨h.in',fun a ha hr=>?_⟩;have:=hq (g.u a,g.v a,g.c a)<|qak.2 ⟨a,qbc.2 ⟨qa5.2 ha,qam hr⟩,rfl⟩;unfold Gr.len;dsimp only at this;omega
attribute [local irreducible] A4 W Wq Wt
structure Ed where
 f:Int
 t:Int
 cap:Int
 cost:Int
def Co(e:Ed):List Value:=[.int .i64 e.f,.int .i64 e.t,.int .i64 e.cap,.int .i64 e.cost]
theorem Eg(e:Ed):∀v∈Co e,AF v=true:=fun v hv=>by
 simp only[Co,qaf,qan,or_false]at hv
 rcases hv with rfl|rfl|rfl|rfl <;> rfl
def I64(x:Int):Prop := -9223372036854775808<=x/\x<=9223372036854775807
def GH(N i:Int):Bool:=decide (0<=i) && decide (i<N)
def DK(N:Int)(e:Ed):Bool:=GH N e.f && (GH N e.t && (decide (0<=e.cap) && (decide (e.cap<=4503599627370496) && (decide (-1000<=e.cost) && decide (e.cost<=1000)))))
def Fx(e:Ed):Nat:=e.cap.toNat*e.cost.natAbs
def Eh(es:List Ed):Nat:=(es.map Fx).sum
def Cd(N:Int)(es:List Ed):Bool:=(decide (1<=N) && decide (N<=40)) && (decide (es.length<=200) && (es.all (DK N) && decide (Eh es<=4611686018427387904)))
def CM(N:Int)(a:Option Addr)(n c:Nat):Value := .agg #[.int .i64 N,.slice a n c]
theorem UJ(N:Int)(a:Option Addr)(n c:Nat)(i:Int)(w:World):Ret prog 249 #[CM N a n c,.int .i64 i] w fun v w'=>v=.bool (GH N i)/\Ext [] w w':=by
 obtain⟨w0,rfl,H⟩:=qE w;refine iG func249 U<|Af<|Be [.int .i64 N,.slice a n c] (.agg _) U U H ?_;rintro b2 w - H;refine qG 7 ?_;refine iC 7 U ?_ ?_
 .intro h1;refine qG 10 ?_;exact⟨qaa Value.bool (by unfold GH;rw[qac];simp_all;try omega),H.ext⟩
 .intro h2;refine qG 10 ?_;exact⟨qaa Value.bool (by unfold GH;rw[qac];simp_all;try omega),H.ext⟩
theorem Aiv(x:Int)(w:World)(h1: -9223372036854775808<x:=by omega)(h2:x<=9223372036854775807:=by omega):Ret prog 218 #[.int .i64 x] w fun v w'=>v=.int .u64 (x.natAbs:Int)/\w=w':=by
 obtain⟨w0,rfl⟩:=qD w;refine iG func218 U ?_;refine qG 9 ?_;rw[show max x (-x)=(x.natAbs:Int)by omega];refine qG 6 ?_;exact⟨rfl,rfl⟩
theorem Acf(N:Int)(a:Option Addr)(n c:Nat)(e:Ed)(w:World):Ret prog 216 #[CM N a n c,.agg (Co e).toArray] w fun v w'=>v=.bool (DK N e)/\Ext [] w w':=by
 obtain⟨w0,rfl,H⟩:=qE w;refine iG func216 U<|Af<|Be [.int .i64 N,.slice a n c] (.agg _) U U H ?_;rintro b2 w - H;refine Be (Co e) (.agg _) U U H ?_;rintro b3 w - H;refine qG 10 ?_;refine Aj qB (UJ N a n c e.f _) U ?_;rintro v w ⟨rfl,hx9⟩;replace H:=H.call hx9;refine qG 4 ?_;refine iE 5 U ?_ ?_
 .intro h1;refine qG 11 ?_;exact⟨qaa Value.bool (by unfold DK;simp_all;try omega),H.ext⟩
 .intro h2;refine qG 4 ?_;refine Aj qB (UJ N a n c e.t _) U ?_;rintro v w ⟨rfl,hx14⟩;replace H:=H.call hx14;refine qG 4 ?_;refine iE 5 U ?_ ?_
  .intro h3;refine qG 11 ?_;exact⟨qaa Value.bool (by unfold DK;simp_all;try omega),H.ext⟩
  .intro h4;refine qG 7 ?_;refine iE 5 U ?_ ?_
   .intro h5;refine qG 11 ?_;exact⟨qaa Value.bool (by unfold DK;simp_all;try omega),H.ext⟩
   .intro h6;refine qG 7 ?_;refine iE 5 U ?_ ?_
    .intro h7;refine qG 11 ?_;exact⟨qaa Value.bool (by unfold DK;simp_all;try omega),H.ext⟩
    .intro h8;refine qG 7 ?_;refine iE 5 U ?_ ?_
     .intro h9;refine qG 11 ?_;exact⟨qaa Value.bool (by unfold DK;simp_all;try omega),H.ext⟩
     .intro h10;refine qG 7 ?_;refine iE 5 U ?_ ?_
      .intro h11;refine qG 8 ?_;exact⟨qaa Value.bool (by unfold DK;simp_all;try omega),H.ext⟩
      .intro h12;refine A1<|Av<|Aa<|Af<|A5 U<|qA<|Bf<|B6 (v:=(.bool _)) U U U ?_;exact⟨qaa Value.bool (by unfold DK;simp_all;try omega),H.ext⟩
theorem Y6(x y:Nat)(w:World)(hx:x<=4503599627370496:=by omega)(hy:y<=1000:=by omega):Ret prog 217 #[.int .u64 (x:Int),.int .u64 (y:Int)] w fun v w'=>v=.tuple #[.int .u64 0,.int .u64 ((x*y:Nat):Int)]/\w=w':=by
 obtain⟨w0,rfl⟩:=qD w;have hm:∀z:Nat,z &&& 4294967295=z % 4294967296:=fun z=>Nat.and_two_pow_sub_one_eq_mod z 32;obtain⟨x0,hx0⟩:=qD<|x % 4294967296;obtain⟨x1,hx1⟩:=qD<|x / 4294967296;have hp0:x0*y<=4294967296*1000:=qd0 (by omega) hy;have hp1:x1*y<=1048576*1000:=qd0 (by omega) hy;have hxy:x*y<=4503599627370496*1000:=qd0 hx hy;refine iG func217 U ?_;refine qG 7 ?_;refine Il (b:=4294967295) U U U ?_;rw[hm,<-hx0];refine qG 5 ?_;refine EL (n:=32) U U ?_;rw[show x / 2 ^ 32=x1 from hx1.symm];refine qG 5 ?_;refine Il (b:=4294967295) U U U ?_;rw[hm,show y % 4294967296=y by omega];refine qG 5 ?_;refine EL (n:=32) U U ?_;rw[show y / 2 ^ 32=0 by omega];refine qG 6 ?_
 refine G6 U U U (qda (by omega)<|by omega) (by rw[<-qdb];omega) ?_;rw[<-qdb];refine qG 6 ?_;refine G6 U U U (qda (by omega)<|by omega) (by rw[<-qdb];omega) ?_;rw[<-qdb];refine Ad U<|EL (n:=32) U U ?_;refine Et U U ?_;rw[<-qc8];refine qG 5 ?_;refine Il (b:=4294967295) U U U ?_;rw[hm];refine qG 5 ?_;refine EL (n:=32) U U ?_;rw[show(x1*y+x0*y / 2 ^ 32) / 2 ^ 32=0 by omega];refine qG 7 ?_;refine G6 U U U (by show(0:Int)<=(x0:Int)*((0:Nat):Int);omega) (by show(x0:Int)*((0:Nat):Int)<=_;omega) ?_;rw[show(x0:Int)*((0:Nat):Int)=0 by omega];refine Et U U ?_;rw[show((((x1*y+x0*y / 2 ^ 32) % 4294967296:Nat):Int)+0)=(((x1*y+x0*y / 2 ^ 32) % 4294967296:Nat):Int)by omega];refine qG 6 ?_
 refine G6 U U U (by show(0:Int)<=(x1:Int)*((0:Nat):Int);omega) (by show(x1:Int)*((0:Nat):Int)<=_;omega) ?_;rw[show(x1:Int)*((0:Nat):Int)=0 by omega];refine qG 3 ?_;refine EL (n:=32) U U ?_;rw[show(x1*y+x0*y / 2 ^ 32) % 4294967296 / 2 ^ 32=0 by omega];refine qG 7 ?_;refine G6 U U U (qda (by omega)<|by omega) (by rw[<-qdb];omega) ?_;rw[<-qdb];refine qG 5 ?_;exact⟨rfl,rfl⟩
theorem MY{es:List Ed}{e:Ed}(h:es[i]?=some e):Eh (es.take<|i+1)=Eh (es.take i)+Fx e:=by
 unfold Eh;rw[EA h,qau,List.sum_append];simp
theorem MZ(es:List Ed)(i:Nat):Eh (es.take i)<=Eh es:=by
 unfold Eh;have h:(es.map Fx).sum=((es.take i).map Fx).sum+((es.drop i).map Fx).sum:=by rw[<-List.sum_append,<-qau,qbp]
 omega
theorem Dw{e:Ed}(h:DK N e=true):0<=e.f/\e.f<N/\0<=e.t/\e.t<N/\0<=e.cap/\e.cap<=4503599627370496 /\ -1000<=e.cost/\e.cost<=1000:=by
 unfold DK GH at h;simp only[qag,qav]at h;omega
theorem C2{p:α->Bool}{x:α}(h:l[i]?=some x)(hp:p x=false):l.all p=false:=by
 rw[List.all_eq_false];exact⟨x,qad h,by rw[hp];simp⟩
theorem CN{p:α->Bool}(h:∀k x,k<l.length->l[k]?=some x->p x=true):l.all p=true:=by
 rw[qaw];intro x hx;obtain⟨k,hk⟩:=qc7 hx;exact h k x (qbh.1 hk).1 hk
theorem K9(N:Int)(a:Option Addr)(n c:Nat)(es:List Ed)(w:World)(R:Rd w a 4 Co es)(hn:es.length=n)(_:I64 N):Ret prog 185 #[CM N a n c] w fun v w'=>v=.bool (Cd N es)/\Ext [] w w':=by
 subst hn;obtain⟨w0,rfl,H⟩:=qE w;refine iG func185 U<|Af<|Be [.int .i64 N,.slice a es.length c] (.agg _) U U H ?_;rintro b1 w - H;refine qG 5 ?_;refine Bo (α:=Unit) 4194048 (fun _=>[(21,.bool<|!((decide (1<=N) && decide (N<=40)) && decide (es.length<=200)))]) (fun _ w'=>Ctx w0 [] w' [(b1,Bl 53 [.int .i64 N,.slice a es.length c])]) U ?_ ?_
 .refine qG 4 ?_;refine iC 11 U ?_ ?_
  .intro h1;refine qG 11 ?_;exact⟨rfl,(),rfl,⟨qaa Value.bool (by rw[qac];simp_all;try omega),trivial⟩,H⟩
  .intro h2;refine qG 5 ?_;refine iC 16 U ?_ ?_
   .intro h3;refine qG 6 ?_;exact⟨rfl,(),rfl,⟨qaa Value.bool (by rw[qac];simp_all;try omega),trivial⟩,H⟩
   .intro h4;refine qG 6 ?_;exact⟨rfl,(),rfl,⟨qaa Value.bool (by rw[qac];simp_all;try omega),trivial⟩,H⟩
 rintro - j21 w H;refine iB U ?_ ?_
 .intro h1;refine qG 7 ?_;exact⟨qaa Value.bool (by unfold Cd;rw[<-qc4,show((decide (1<=N) && decide (N<=40)) && decide (es.length<=200))=false by simpa using h1];rfl),H.ext⟩
 .intro h1;have h1':((decide (1<=N) && decide (N<=40)) && decide (es.length<=200))=true:=by simpa using h1
  have hrN:Cd N es=(es.all (DK N) && decide (Eh es<=4611686018427387904)):=by unfold Cd;rw[<-qc4,h1'];rfl
  have hn2:es.length<=200:=by simp only[qag,qav]at h1';omega
  refine qG 15 ?_;refine AY 18014398475927788 (α:=Nat) (fun i=>[(25,.int .i64 (i:Int)),(3,.int .u64 ((4611686018427387904 - Eh (es.take i):Nat):Int))]) (fun i w'=>i<=es.length/\Ctx w0 [] w' [(b1,Bl 53 [.int .i64 N,.slice a es.length c])]/\Eh (es.take i)<=4611686018427387904/\∀(k:Nat) (e:Ed),k<i->es[k]?=some e->DK N e=true) (fun i=>es.length - i) 0 U ?_ ?_ ?_
  .exact⟨rfl,rfl,trivial⟩
  .exact⟨qai _,H,qai _,fun k e h=>absurd h<|qay _⟩
  .rintro i j w ⟨hi,H,hpr,hb⟩;refine qGp 5 ?_ ?_
   .intro h2;obtain⟨e,he⟩:=Au (l:=es) (i:=i);have hps:=MY he;have hpt:=MZ es<|i+1;refine qG 5 ?_;refine A2 R qf qf U U (by rfl)<|BC _ qf qf U U ((R.ext0 H.ext).row he U)<|AN qf H ?_;rintro b5 w - H;refine AM qf U U U (by exact Eg _) H at0 U ?_;rintro w H;refine qG 6 ?_;refine Aj qB (Acf N a es.length c e _) U ?_;rintro v w ⟨rfl,hx31⟩;replace H:=H.call hx31;refine qGp 3 ?_ ?_
    .intro h3;refine qG 12 ?_;exact⟨qaa Value.bool (by rw[hrN,C2 he<|by simpa using h3];rfl),H.ext⟩
    .intro h3;have h3':DK N e=true:=by simpa using h3
     obtain⟨-,-,-,-,q1,q2,q3,q4⟩:=Dw h3';obtain⟨cp,hcp⟩:∃cp:Nat,e.cap=(cp:Int):=⟨e.cap.toNat,by omega⟩;have hpe:Fx e=cp*e.cost.natAbs:=by unfold Fx;rw[hcp,qa7]
     have hpm:cp*e.cost.natAbs<=4503599627370496*1000:=qd0 (by omega) (by omega);obtain⟨w5,rfl⟩:=qD w;have hb5:=H.get at0;have hk5:∀{z:World},Ext [] w5 z->z.heap[b5]?=some (Bl 195 (Co e)):=fun{z} h=>by rw[h.block b5 (AX hb5)<|by simp];exact hb5
     have hD:=Ext.drew [] w5;refine A1<|Aa<|BG [([0,1,2,3,4],5),([],6),([7,8,9,10],11)] (fun z=>Ext [] w5 z) [] AW (hD) ?_;refine A0 U U ?_;refine Ah qf U<|AU qf U (fun _ hx=>(by rw[Ai<|hk5 hx];rfl)) ?_;rw[hcp];refine SZ U U qf qf ?_;refine Ah qf U<|AU qf U (fun _ hx=>(by rw[Ai<|hk5 hx];rfl)) ?_;refine A6 ?_;replace H:=H.drew;refine Aj qB (Aiv e.cost _) U ?_;rintro v w ⟨rfl,rfl⟩;refine Ab<|Bv (hD)<|A0 U U ?_;refine A6<|Aj qB (Y6 cp e.cost.natAbs _) U ?_;rintro v w ⟨rfl,rfl⟩;refine Ab<|Bv (hD)<|A0 U U ?_;refine CK U<|AZ U U<|AZ U U<|FM U<|A6<|Ag U<|Ab<|Bv (hD)<|Bu<|AB<|Af ?_;refine Ad U<|CV U U<|Bj U<|Ad U<|Ad U<|Es U U<|B9 U (.bool _) U<|qA<|iB U ?_ ?_
     .intro h4;refine qG 12 ?_;exact⟨qaa Value.bool<|by rw[hrN,qa1<|show ¬Eh es<=4611686018427387904 by omega,qcv],H.ext⟩
     .intro h4;refine A1<|Aa<|Aw<|Ad U<|Ad U<|JQ U U U ?_;refine Ag U<|Ab<|Av<|Aa<|Aw<|Ap U U ?_;refine Ad U<|qA ?_;refine⟨i+1,rfl,⟨rfl,qaa (Value.int .u64) (by rw[hps,hpe];omega),trivial⟩,⟨by omega,H.tail,by rw[hps,hpe];omega,fun k y hk hy=>?_⟩,by omega⟩
      rcases qao k i with h7|h7
      .exact hb k y h7 hy
      .obtain rfl:k=i:=by omega
       rw[he]at hy;cases hy;exact h3'
   .intro h2;refine Bi<|Am<|Am<|A8<|Aa<|Af<|A5 U<|qA<|Bf<|B6 (v:=(.bool _)) U U U ?_;rw[qc5<|by omega]at hpr;exact⟨qaa Value.bool (by rw[hrN,CN fun k x hk hx=>hb k x (by omega) hx,qam hpr];rfl),H.ext⟩
def Cu(x:Int):Value := .int .i64 x
abbrev I1(x:Int):List Value:=[.int .i64 x]
def inB(e:Ed)(x:Int):Bool:=decide (0<=x) && decide (x<=e.cap)
def BO(N:Int)(es:List Ed)(fl:List Int):Bool:=(decide (fl.length=es.length) && Cd N es) && (List.zipWith inB es fl).all id
theorem JU{es:List Ed}{e:Ed}{x:Int}(he:es[i]?=some e)(hx:fl[i]?=some x):(List.zipWith inB es fl)[i]?=some (inB e x):=by
 rw[qd1,he,hx]
theorem Jy(N:Int)(a b:Option Addr)(n c m d:Nat)(es:List Ed)(fl:List Int)(w:World)(R:Rd w a 4 Co es)(hn:es.length=n)(hN:I64 N)(Rf:Rd w b 1 I1 fl)(hm:fl.length=m)(hm2:m<=9223372036854775000) :
  Ret prog 219 #[CM N a n c,.slice b m d] w fun v w'=>v=.bool (BO N es fl)/\Ext [] w w':=by
 subst hn hm;obtain⟨w0,rfl,H⟩:=qE w;refine iG func219 U<|Af<|Be [.int .i64 N,.slice a es.length c] (.agg _) U U H ?_;rintro b2 w - H;refine qG 5 ?_;refine Bo (α:=Unit) 262016 (fun _=>[(17,.bool<|!(decide (fl.length=es.length) && Cd N es))]) (fun _ w'=>Ctx w0 [] w' [(b2,Bl 53 [.int .i64 N,.slice a es.length c])]) U ?_ ?_
 .refine qG 7 ?_;refine iC 13 U ?_ ?_
  .intro h1;refine qG 5 ?_;exact⟨rfl,(),rfl,⟨qaa Value.bool (by rw[qac];simp_all;try omega),trivial⟩,H⟩
  .intro h2;refine Dh qf qf U H at0 U<|Aj qB (K9 N a es.length c es _ (R.ext0 H.ext) U hN) U ?_;rintro v w ⟨rfl,hx15⟩;replace H:=H.call hx15;refine qG 3 ?_;exact⟨rfl,(),rfl,⟨qaa Value.bool (by rw[qac];simp_all;try omega),trivial⟩,H⟩
 rintro - j17 w H;refine iB U ?_ ?_
 .intro h1;refine qG 7 ?_;exact⟨qaa Value.bool (by unfold BO;rw[show(decide (fl.length=es.length) && Cd N es)=false by simpa using h1];rfl),H.ext⟩
 .intro h1;have h1':(decide (fl.length=es.length) && Cd N es)=true:=by simpa using h1
  have hw:BO N es fl=(List.zipWith inB es fl).all id:=by unfold BO;rw[h1'];rfl
  have hle:fl.length=es.length:=by simp only[qag,qav]at h1';exact h1'.1
  refine qG 10 ?_;refine AY 274876858480 (α:=Nat) (fun i=>[(20,.int .i64 (i:Int))]) (fun i w'=>i<=fl.length/\Ctx w0 [] w' [(b2,Bl 53 [.int .i64 N,.slice a es.length c])]/\∀(k:Nat) (e:Ed) (x:Int),k<i->es[k]?=some e->fl[k]?=some x->inB e x=true) (fun i=>fl.length - i) 0 U ?_ ?_ ?_
  .exact⟨rfl,trivial⟩
  .exact⟨qai _,H,fun k e x h=>absurd h<|qay _⟩
  .rintro i j w ⟨hi,H,hb⟩;refine qGp 5 ?_ ?_
   .intro h2;obtain⟨e,he⟩:=Au (l:=es) (i:=i);obtain⟨x,hx⟩:=Au (l:=fl) (i:=i);refine qG 6 ?_;refine A2 Rf qf qf U U (by rfl)<|A9 qf U (((Rf.ext0 H.ext).fld hx U (j:=0) U)) ?_;refine qG 5 ?_;refine Bo (α:=Unit) 137405399040 (fun _=>[(36,.bool<|!inB e x)]) (fun _ w'=>Ctx w0 [] w' [(b2,Bl 53 [.int .i64 N,.slice a es.length c])]) U ?_ ?_
    .refine qG 3 ?_;refine iC 27 U ?_ ?_
     .intro h3;refine qG 10 ?_;exact⟨rfl,(),rfl,⟨qaa Value.bool (by unfold inB;rw[qac];simp_all;try omega),trivial⟩,H⟩
     .intro h4;refine qG 4 ?_;refine A2 R qf qf U U (by rfl)<|Ae qf U<|A9 qf U (((R.ext0 H.ext).fld he U (j:=2) U)) ?_;refine qG 3 ?_;exact⟨rfl,(),rfl,⟨qaa Value.bool (by unfold inB;rw[qac];simp_all;try omega),trivial⟩,H⟩
    rintro - j36 w H;refine iB U ?_ ?_
    .intro h3;refine qG 11 ?_;exact⟨qaa Value.bool<|by rw[hw,C2 (JU he hx)<|show id (inB e x)=false by simpa using h3],H.ext⟩
    .intro h3;refine A1<|Av<|Aa<|Aw<|Ap U U ?_;refine Ad U<|qA ?_;refine⟨i+1,rfl,⟨rfl,trivial⟩,⟨by omega,H,fun k f y hk hf hy=>?_⟩,by omega⟩
     rcases qao k i with h7|h7
     .exact hb k f y h7 hf hy
     .obtain rfl:k=i:=by omega
      rw[he]at hf;rw[hx]at hy;cases hf;cases hy
      simpa using h3
   .intro h2;refine Bi<|Am<|Am<|A8<|Aa<|Af<|A5 U<|qA<|Bf<|B6 (v:=(.bool _)) U U U ?_;refine⟨qaa Value.bool ?_,H.ext⟩;rw[hw,CN fun k x hk hx=>?_];rw[qcl]at hk;obtain⟨e,he⟩:=Au (l:=es) (i:=k);obtain⟨y,hy⟩:=Au (l:=fl) (i:=k);rw[JU he hy]at hx;cases hx;exact hb k e y (by omega) he hy
theorem Cj{es:List Ed}(h:BO N es fl=true):fl.length=es.length/\Cd N es=true/\∀(i:Nat) (e:Ed) (x:Int),es[i]?=some e->fl[i]?=some x->0<=x/\x<=e.cap:=by
 unfold BO at h;simp only[qag,qav,qaw]at h;refine⟨h.1.1,h.1.2,fun i e x he hx=>?_⟩;have:=h.2 _<|qad<|JU he hx;unfold inB at this
 simpa using this
theorem Cr{es:List Ed}(h:Cd N es=true):1<=N/\N<=40/\es.length<=200/\(∀e∈es,DK N e=true)/\Eh es<=4611686018427387904:=by
 unfold Cd at h;simp only[qag,qav,qaw]at h;exact⟨h.1.1,h.1.2,h.2.1,h.2.2.1,h.2.2.2⟩
def HQ(es:List Ed)(a:Int):Bool:=decide (0<=a) && decide (a<2*es.length)
theorem Y7(N:Int)(a:Option Addr)(n c:Nat)(es:List Ed)(hn:es.length=n)(hb:n<=1000000)(k:Int)(w:World):Ret prog 251 #[CM N a n c,.int .i64 k] w fun v w'=>v=.bool (HQ es k)/\Ext [] w w':=by
 subst hn;obtain⟨w0,rfl,H⟩:=qE w;refine iG func251 U<|Af<|Be [.int .i64 N,.slice a es.length c] (.agg _) U U H ?_;rintro b2 w - H;refine qG 7 ?_;refine iC 7 U ?_ ?_
 .intro h1;refine qG 12 ?_;exact⟨qaa Value.bool (by unfold HQ;rw[qac];simp_all;try omega),H.ext⟩
 .intro h2;refine qG 12 ?_;exact⟨qaa Value.bool (by unfold HQ;rw[qac];simp_all;try omega),H.ext⟩
theorem UK(k:Nat)(w:World)(hk:k<9223372036854775808:=by omega):Ret prog 273 #[.int .i64 (k:Int)] w fun v w'=>v=.bool (decide (k % 2=1))/\w=w':=by
 obtain⟨w0,rfl⟩:=qD w;refine iG func273 U ?_;refine qG 6 ?_;refine MO (b:=1) U U U (by omega) (by omega) ?_;rw[Nat.and_one_is_mod];refine qG 6 ?_;exact⟨qaa Value.bool (by rw[qac];simp;omega),rfl⟩
def Fh(e:Ed)(k:Nat):Int × Int × Int:=if k % 2=1 then(e.t,e.f,-e.cost)else(e.f,e.t,e.cost)
theorem Acg(N:Int)(a:Option Addr)(n c:Nat)(es:List Ed)(w:World)(R:Rd w a 4 Co es)(hn:es.length=n)(hb:n<=1000000)(k:Nat){e:Ed}(he:es[k / 2]?=some e)(hc: -9223372036854775808<e.cost/\e.cost<=9223372036854775807:=by omega):Ret prog 252 #[CM N a n c,.int .i64 (k:Int)] w fun v w'=>v=.tuple #[.int .i64 (Fh e k).1,.int .i64 (Fh e k).2.1,.int .i64 (Fh e k).2.2]/\Ext [] w w':=by
 subst hn;obtain⟨w0,rfl,H⟩:=qE w;have hk:=BH he;refine iG func252 U<|Af<|Be [.int .i64 N,.slice a es.length c] (.agg _) U U H ?_;rintro b2 w - H;refine qG 9 ?_;refine Im (n:=1) U U U ?_;rw[show k / 2 ^ 1=k / 2 from rfl];refine A2 R qf qf U U (by rfl)<|BC _ qf qf U U ((R.ext0 H.ext).row he U) ?_;refine AN qf H ?_;rintro b7 w - H;refine AM qf U U U (by exact Eg _) H at0 U ?_;rintro w H;refine qG 5 ?_;refine Aj qB (UK k _) U ?_;rintro v w ⟨rfl,rfl⟩;refine qGc 2 ?_ ?_
 .intro h1;refine CG (fun x=>x=_) AW U<|Aq qf U<|B7 qf U (by rintro _ rfl;exact H.drew) at0 U<|Aq qf U<|B7 qf U (by rintro _ rfl;exact H.drew) at0 U<|Aq qf U<|B7 qf U (by rintro _ rfl;exact H.drew) at0 U<|NX U U ?_;refine qG 4 ?_;rintro _ rfl;replace H:=H.drew;refine qG 3 ?_;exact⟨by unfold Fh;rw[if_pos<|qbe h1],H.ext⟩
 .intro h1;refine A1<|Aa<|CG (fun x=>x=_) AW U<|Aq qf U<|B7 qf U (by rintro _ rfl;exact H.drew) at0 U<|Aq qf U<|B7 qf U (by rintro _ rfl;exact H.drew) at0 U<|Aq qf U<|B7 qf U (by rintro _ rfl;exact H.drew) at0 U ?_;refine qG 4 ?_;rintro _ rfl;replace H:=H.drew;refine qG 2 ?_;exact⟨by unfold Fh;rw[if_neg<|qbq h1],H.ext⟩
def Fy(N:Int)(es:List Ed)(k:Int):Int × Int × Int:=if(HQ es k && Cd N es)=true then Fh (es.getD (k.toNat / 2) ⟨0,0,0,0⟩) k.toNat else(0,0,0)
theorem PU(N:Int)(a:Option Addr)(n c:Nat)(es:List Ed)(w:World)(R:Rd w a 4 Co es)(hn:es.length=n)(hN:I64 N)(k:Int)(hb:n<=1000000:=by omega):Ret prog 221 #[CM N a n c,.int .i64 k] w fun v w'=>v=.tuple #[.int .i64 (Fy N es k).1,.int .i64 (Fy N es k).2.1,.int .i64 (Fy N es k).2.2]/\Ext [] w w':=by
 subst hn;obtain⟨w0,rfl,H⟩:=qE w;refine iG func221 U<|Af<|Be [.int .i64 N,.slice a es.length c] (.agg _) U U H ?_;rintro b2 w - H;refine qG 7 ?_;refine Bo (α:=Unit) 65408 (fun _=>[(15,.bool<|!(HQ es k && Cd N es))]) (fun _ w'=>Ctx w0 [] w' [(b2,Bl 53 [.int .i64 N,.slice a es.length c])]) U ?_ ?_
 .refine qG 2 ?_;refine Aj qB (Y7 N a es.length c es U hb k _) U ?_;rintro v w ⟨rfl,hx9⟩;replace H:=H.call hx9;refine qG 2 ?_;refine iC 11 U ?_ ?_
  .intro h1;refine qG 5 ?_;exact⟨rfl,(),rfl,⟨qaa Value.bool (by rw[qac];simp_all),trivial⟩,H⟩
  .intro h2;refine Dh qf qf U H at0 U<|Aj qB (K9 N a es.length c es _ (R.ext0 H.ext) U hN) U ?_;rintro v w ⟨rfl,hx13⟩;replace H:=H.call hx13;refine qG 3 ?_;exact⟨rfl,(),rfl,⟨qaa Value.bool (by rw[qac];simp_all),trivial⟩,H⟩
 rintro - j15 w H;refine iB U ?_ ?_
 .intro h1;refine qG 9 ?_;exact⟨by unfold Fy;rw[if_neg (by rw[show(HQ es k && Cd N es)=false by simpa using h1];simp)],H.ext⟩
 .intro h1;have h1':(HQ es k && Cd N es)=true:=by simpa using h1
  have hk:0<=k/\k<2*es.length:=by
   simp only[qag]at h1';have:=h1'.1;unfold HQ at this
   simpa using this
  obtain⟨q,rfl⟩:∃q:Nat,k=(q:Int):=⟨k.toNat,by omega⟩;obtain⟨e,he⟩:=Au (l:=es) (i:=q / 2);have hee:=(Cr (Bool.and_eq_true_iff.1 h1').2).2.2.2.1 e<|qad he;have hco:=Dw hee;have hE:Fy N es (q:Int)=Fh e q:=by unfold Fy;rw[if_pos h1',qa7,qb1,he];rfl
  rw[hE];refine qG 5 ?_;refine Aj qB (Acg N a es.length c es _ (R.ext0 H.ext) U hb q he) U ?_;rintro v w ⟨rfl,hx18⟩;replace H:=H.call hx18;refine qG 10 ?_;exact⟨rfl,H.ext⟩
def Jd(e:Ed)(x:Int)(k:Nat):Int:=if k % 2=1 then x else e.cap - x
theorem Ach(N:Int)(a b:Option Addr)(n c m d:Nat)(es:List Ed)(fl:List Int)(w:World)(R:Rd w a 4 Co es)(hn:es.length=n)(hb:n<=1000000)(Rf:Rd w b 1 I1 fl)(hm:fl.length=m)(k:Nat){e:Ed}{x:Int}(he:es[k / 2]?=some e)(hx:fl[k / 2]?=some x)(hr: -9223372036854775808<=e.cap - x/\e.cap - x<=9223372036854775807:=by omega):
  Ret prog 253 #[CM N a n c,.slice b m d,.int .i64 (k:Int)] w fun v w'=>v=.int .i64 (Jd e x k)/\Ext [] w w':=by
 subst hn hm;obtain⟨w0,rfl,H⟩:=qE w;have hk:=BH he;have hkx:=BH hx;refine iG func253 U<|Af<|Be [.int .i64 N,.slice a es.length c] (.agg _) U U H ?_;rintro b3 w - H;refine qG 6 ?_;refine Im (n:=1) U U U ?_;rw[show k / 2 ^ 1=k / 2 from rfl];refine A2 Rf qf qf U U (by rfl)<|A9 qf U (((Rf.ext0 H.ext).fld hx U (j:=0) U)) ?_;refine qG 6 ?_;refine Aj qB (UK k _) U ?_;rintro v w ⟨rfl,rfl⟩;refine qGc 2 ?_ ?_
 .intro h1;refine qG 8 ?_;exact⟨by unfold Jd;rw[if_pos<|qbe h1],H.ext⟩
 .intro h1;refine qG 6 ?_;refine Im (n:=1) U U U ?_;rw[show k / 2 ^ 1=k / 2 from rfl];refine A2 R qf qf U U (by rfl)<|Ae qf U<|A9 qf U (((R.ext0 H.ext).fld he U (j:=2) U)) ?_;refine qG 7 ?_;exact⟨by unfold Jd;rw[if_neg<|qbq h1],H.ext⟩
def JG(N:Int)(es:List Ed)(fl:List Int)(k:Int):Int:=if(HQ es k && BO N es fl)=true then Jd (es.getD (k.toNat / 2) ⟨0,0,0,0⟩) (fl.getD (k.toNat / 2) 0) k.toNat else 0
theorem PV(N:Int)(a b:Option Addr)(n c m d:Nat)(es:List Ed)(fl:List Int)(w:World)(R:Rd w a 4 Co es)(hn:es.length=n)(hN:I64 N)(Rf:Rd w b 1 I1 fl)(hm:fl.length=m)(k:Int)(hb:n<=1000000:=by omega)(hm2:m<=9223372036854775000:=by omega):Ret prog 222 #[CM N a n c,.slice b m d,.int .i64 k] w fun v w'=>v=.int .i64 (JG N es fl k)/\Ext [] w w':=by
 subst hn hm;obtain⟨w0,rfl,H⟩:=qE w;refine iG func222 U<|Af<|Be [.int .i64 N,.slice a es.length c] (.agg _) U U H ?_;rintro b3 w - H;refine qG 5 ?_;refine Bo (α:=Unit) 130944 (fun _=>[(16,.bool<|!(HQ es k && BO N es fl))]) (fun _ w'=>Ctx w0 [] w' [(b3,Bl 53 [.int .i64 N,.slice a es.length c])]) U ?_ ?_
 .refine qG 2 ?_;refine Aj qB (Y7 N a es.length c es U hb k _) U ?_;rintro v w ⟨rfl,hx9⟩;replace H:=H.call hx9;refine qG 2 ?_;refine iC 11 U ?_ ?_
  .intro h1;refine qG 6 ?_;exact⟨rfl,(),rfl,⟨qaa Value.bool (by rw[qac];simp_all),trivial⟩,H⟩
  .intro h2;refine qG 2 ?_;refine Aj qB (Jy N a b es.length c fl.length d es fl _ (R.ext0 H.ext) U hN (Rf.ext0 H.ext) U hm2) U ?_;rintro v w ⟨rfl,hx14⟩;replace H:=H.call hx14;refine qG 3 ?_;exact⟨rfl,(),rfl,⟨qaa Value.bool (by rw[qac];simp_all),trivial⟩,H⟩
 rintro - j16 w H;refine iB U ?_ ?_
 .intro h1;refine qG 7 ?_;exact⟨by unfold JG;rw[if_neg (by rw[show(HQ es k && BO N es fl)=false by simpa using h1];simp)],H.ext⟩
 .intro h1;have h1':(HQ es k && BO N es fl)=true:=by simpa using h1
  have hk:0<=k/\k<2*es.length:=by
   simp only[qag]at h1';have:=h1'.1;unfold HQ at this
   simpa using this
  obtain⟨q,rfl⟩:∃q:Nat,k=(q:Int):=⟨k.toNat,by omega⟩;obtain⟨hl,hri,hin⟩:=Cj (Bool.and_eq_true_iff.1 h1').2;obtain⟨e,he⟩:=Au (l:=es) (i:=q / 2);obtain⟨x,hx⟩:=Au (l:=fl) (i:=q / 2);have hee:=(Cr hri).2.2.2.1 e<|qad he;have hco:=Dw hee;have hxx:=hin _ e x he hx;have hE:JG N es fl (q:Int)=Jd e x q:=by unfold JG;rw[if_pos h1',qa7,qb1,he,qb1,hx];rfl
  rw[hE];refine qG 6 ?_;refine Aj qB (Ach N a b es.length c fl.length d es fl _ (R.ext0 H.ext) U hb (Rf.ext0 H.ext) U q he hx) U ?_;rintro v w ⟨rfl,hx20⟩;replace H:=H.call hx20;refine qG 5 ?_;exact⟨rfl,H.ext⟩
abbrev ptr(b:Nat):Value := .pointer (some ⟨b,0,none⟩)
def tab(f:Nat->Int)(n:Nat):List Int:=(List.range n).map f
theorem CP(f:Nat->Int)(n:Nat):(tab f n).length=n:=by unfold tab;simp
theorem BP(h:i<n):(tab f n)[i]?=some (f i):=Ds h
theorem Aiw(l:List Int):tab (fun i=>l.getD i 0) l.length=l:=by
 apply qca;intro j
 by_cases hj:j<l.length
 .rw[BP hj,qb1,qb4 hj];rfl
 .rw[qbg (by rw[CP];omega),qbg<|by omega]
theorem Lr{x:Int}(h:(tab f n)[i]?=some x):i<n/\x=f i:=by
 have h1:=BH h;rw[CP]at h1;rw[BP h1]at h;cases h;exact⟨h1,rfl⟩
abbrev BF(f:Nat->Int)(n:Nat):List Value:=(List.range n).map fun i => .int .i64 (f i)
theorem VT(f:Nat->Int)(n:Nat):BF f n=(tab f n).flatMap I1:=by
 unfold tab I1;rw[X0,qcb];rfl
theorem Cv{b:Nat}(h:w.heap[b]?=some (Bl t<|BF f n)):Rd w (some ⟨b,0,none⟩) 1 I1 (tab f n) :=
 Rd.of_bl (r:=[]) (enc:=I1) (xs:=tab f n) h (by rw[VT,qar]) fun _ _=>rfl
def e0:Ed:=⟨0,0,0,0⟩
def grE(N:Int)(es:List Ed):Gr:=⟨N.toNat,es.length,fun i=>(es.getD i e0).f.toNat,fun i=>(es.getD i e0).t.toNat,fun i=>(es.getD i e0).cost⟩
def Ck(es:List Ed)(i:Nat):Int:=(es.getD i e0).cap
def flE(fl:List Int)(i:Nat):Int:=fl.getD i 0
theorem Bp{x d:α}(h:l[i]?=some x):l.getD i d=x:=by rw[qb1,h];rfl
def JH(N:Int)(es:List Ed)(fl:List Int):List Int:=tab (BJ (grE N es) (flE fl)) N.toNat
def Ei(N:Int)(es:List Ed)(fl:List Int):Bool:=BO N es fl && (JH N es fl).all fun x=>decide (x=0)
theorem Y8(N:Int)(a b:Option Addr)(n c m d:Nat)(w:World):Ret prog 250 #[CM N a n c,.slice b m d] w fun v w'=>∃b2 b3,v=.func (.func 272) #[] #[ptr b2,ptr b3]/\w'.heap[b2]?=some (Bl 53 [.int .i64 N,.slice a n c])/\w'.heap[b3]?=some (Bl 41 [.slice b m d])/\w.heap.size<=b2/\w.heap.size<=b3/\b2≠b3/\Ext [] w w':=by
 obtain⟨w0,rfl,H⟩:=qE w;refine iG func250 U<|Af<|Be [.int .i64 N,.slice a n c] (.agg _) U U H ?_;rintro b2 w - H;refine qG 1 ?_;rintro b3 w - H;refine Dr U .nilFunc U<|qA<|Af<|Ci [.pointer _,.pointer _] U ?_;refine qG 5 ?_;have ho:∀x∈[(b3,Bl 41 [.slice b m d]),(b2,Bl 53 [.int .i64 N,.slice a n c])],w0.heap.size<=x.1:=fun x hx=>(H.own x hx).elim (fun h=>by cases h) id;exact⟨b2,b3,rfl,H.get at1,H.get at0,ho (b2,_)<|qae _<|qah ..,ho (b3,_)<|qah ..,H.ne at1 at0<|by decide,H.ext⟩
def UL(p:Ed × Int):List Value:=[.agg (Co p.1).toArray,.int .i64 p.2]
structure EdgeK(b2 b3:Nat)(N:Int)(a b:Option Addr)(n c m d:Nat)(es:List Ed)(fl:List Int)(w:World):Prop where
 h2:w.heap[b2]?=some (Bl 53 [.int .i64 N,.slice a n c])
 h3:w.heap[b3]?=some (Bl 41 [.slice b m d])
 R:Rd w a 4 Co es
 Rf:Rd w b 1 I1 fl
theorem Aci{m:List β}{x:α}{y:β}(h1:l[i]?=some x)(h2:m[i]?=some y):(l.zip m)[i]?=some (x,y):=by
 rw[qcc];exact⟨h1,h2⟩
theorem VU{a b:Option Addr}{c m:Nat}{es:List Ed}(hn:es.length=n)(hm:fl.length=m)(hnm:n=m)(hn2:n<=1000000:=by omega):P8 prog 272 #[ptr b2,ptr b3] [] (fun _ w=>EdgeK b2 b3 N a b n c m d es fl w) ((es.zip fl).map UL):=by
 subst hn hm;intro l w J E hJ0 hJs hEs hK hY;obtain⟨M0,hJ0⟩:=hJ0;obtain⟨w0,rfl⟩:=qD w;have hlen:((es.zip fl).map UL).length=es.length:=by rw[qaj,qb3];omega
 refine iG func272 U ?_;have K0:=(hK _ _ _ hJ0).2;refine Af<|Ae qf U<|A9 qf U ((by rw[Ai K0.h2];rfl)) ?_;refine qG 5 ?_;refine AY 8388144 (α:=Nat) (fun i=>[(9,.int .i64 (i:Int))]) (fun i w'=>i<=es.length/\∃M,J i M w') (fun i=>es.length - i) 0 U ?_ ?_ ?_
 .exact⟨rfl,trivial⟩
 .exact⟨qai _,M0,hJ0⟩
 .rintro i j w ⟨hi,M,hJ⟩;have KK:=(hK _ _ _ hJ).2;have R:=KK.R;have Rf:=KK.Rf;obtain⟨w1,rfl,H⟩:=qE w;refine qGp 5 ?_ ?_
  .intro h1;obtain⟨e,he⟩:=Au (l:=es) (i:=i);obtain⟨x,hfx⟩:=Au (l:=fl) (i:=i);refine qG 6 ?_;refine A2 R qf qf U U (by rfl)<|BC _ qf qf U U ((R.ext0 H.ext).row he U)<|AN qf H ?_;rintro b5 w - H;refine Ag U<|AM qf U U U (by exact Eg _) H at0 U ?_;rintro w H;refine qA ?_;have hY1:=hY i (UL (e,x)) M w.drew (by rw[qa9,Aci he hfx];rfl)<|hJs _ _ _ _ hJ<|H.ext.trans<|Ext.drew [] w;have KR:=(hK _ _ _<|hJs _ _ _ _ hJ<|H.ext.trans<|Ext.drew [] w).2;refine De 6 AW U U (Lh U (.func _ _ _) U ?_);refine MF U qf qf U (by rintro _ rfl;exact H.drew) at0 U ?_;refine BD qf U (by rintro _ rfl;exact((by rw[Ai KR.h3];rfl))) ?_;refine AS U<|Br Rf qf qf U U (by rfl) ?_;refine BD qf U (by rintro _ rfl;exact((KR.Rf.fld hfx rfl (j:=0) rfl))) ?_
   refine Cc ?_;replace H:=H.drew;refine Gb (vs:=UL (e,x)) U hY1 U ?_;rintro u w hu;obtain⟨bb,rfl,hu1,hu0⟩:∃bb,u=.bool bb/\(bb=true->∃M,J (i+1) M w)/\(bb=false->E w):=hu.elim (fun h=>⟨true,h.1,fun _=>let ⟨M',h1,_⟩:=h.2;⟨M',h1⟩,fun h=>by cases h⟩) fun h=>⟨false,h.1,(fun h=>by cases h),fun _=>h.2⟩;refine qGp 3 ?_ ?_
   .intro h2;refine qG 6 ?_;exact .inr<|hu0<|by simpa using h2
   .intro h2;refine A1<|Av<|Aa<|Aw<|Ap U U ?_;refine Ad U<|qA ?_;exact⟨i+1,rfl,⟨rfl,trivial⟩,⟨by omega,hu1<|by simpa using h2⟩,by omega⟩
  .intro h1;refine qG 5 ?_;obtain rfl:i=es.length:=by omega
   exact .inl ⟨M,by rw[hlen];exact hJ⟩
theorem EM{p:Prop}[Decidable p](h:p):one p=1:=if_pos h
theorem E3{p:Prop}[Decidable p](h:¬p):one p=0:=if_neg h
theorem CI(p:Nat->Int)(v:Nat)(x:Int):upd p v x v=x:=if_pos rfl
theorem Dy{v:Nat}{x:Int}{u:Nat}(h:u≠v):upd p v x u=p u:=if_neg h
theorem G1(g:Gr)(x:Nat->Int)(k v:Nat):Em g x (k+1) v=Em g x k v+(one (g.t k=v) - one (g.f k=v))*x k:=rfl
theorem Acj(N:Int)(a b:Option Addr)(n c m d:Nat)(es:List Ed)(fl:List Int)(w:World)(R:Rd w a 4 Co es)(hn:es.length=n)(hN:I64 N)(Rf:Rd w b 1 I1 fl)(hm:fl.length=m)(hm2:m<=9223372036854775000) :
  Ret prog 220 #[CM N a n c,.slice b m d] w fun v w'=>(BO N es fl=false->v=.slice none 0 0)/\(BO N es fl=true->∃b',v=.slice (some ⟨b',0,none⟩) N.toNat N.toNat/\w'.heap[b']?=some (Bl 2 (BF (BJ (grE N es)<|flE fl) N.toNat))/\w.heap.size<=b')/\Ext [] w w':=by
 subst hn hm;obtain⟨w0,rfl,H⟩:=qE w;refine Gx (fn:=f220) func220 U [CM N a es.length c,.slice b fl.length d] U<|Af<|Be [.int .i64 N,.slice a es.length c] (.agg _) U U H ?_;rintro b2 w - H;refine qG 7 ?_;refine Aj qB (Jy N a b es.length c fl.length d es fl _ (R.ext0 H.ext) U hN (Rf.ext0 H.ext) U hm2) U ?_;rintro v w ⟨rfl,hx10⟩;replace H:=H.call hx10;refine qGp 3 ?_ ?_
 .intro h1;refine qG 6 ?_;refine Kt (v:=(.slice _ _ _)) U U ?_;have h1':BO N es fl=false:=by simpa using h1
  exact⟨fun _=>rfl,fun h=>(by rw[h1']at h;cases h),H.ext⟩
 .intro h1;have h1':BO N es fl=true:=by simpa using h1
  obtain⟨hl,hr,hin⟩:=Cj h1';obtain⟨hN1,hN40,hn200,hed,-⟩:=Cr hr;obtain⟨nn,rfl⟩:∃nn:Nat,N=(nn:Int):=⟨N.toNat,by omega⟩;obtain⟨g,hg⟩:=qD<|grE (nn:Int) es;obtain⟨x,hx⟩:=qD<|flE fl;have hgE:g.E=es.length:=by rw[hg];rfl
  refine qG 6 ?_;rintro b14 w - H;rw[show((nn:Int)).toNat=nn from rfl,DP]at H;refine AN qf H ?_;rintro b5 w - H;refine Ch (.slice _ _ _) qf U U U H at0 (by decide) ?_;rintro w H;refine qA<|AB<|Af<|Dh qf qf U H at2 U<|AH U ?_;have hlt:=H.lt (k:=0) rfl;have hlt1:=H.lt (k:=1) rfl;refine Aj qB (Y8 (nn:Int) a b es.length c fl.length d _) U ?_;rintro v w ⟨x2,x3,rfl,hb2,hb3,hs2,hs3,hne,hx17⟩;have H3:=(H.callAdd hx17 hb2 hs2).add hb3 (.inr<|qa3 H.size hs3) fun y hy=>(qaf.1 hy).elim (fun h=>by rw[h];exact hne) fun hy=>Nat.ne_of_lt<|qbb (AX<|H.blk y hy) hs3;refine qA<|AK ?_;obtain⟨ws,rfl⟩:=qD w;have hk3:=H3.lt (k:=0) rfl;have hk2:=H3.lt (k:=1) rfl;have hk5:=H3.lt (k:=2) rfl;have hk14:=H3.lt (k:=3) rfl;have hkb:=H3.lt (k:=4) rfl;have hs0:=H3.size;replace H3:=H3.perm<|qbl (l₁:=[_,_,_]) (l₂:=[_])
  refine Mk (gf:=272) U qB (VU (b2:=x2) (b3:=x3) (N:=(nn:Int)) (a:=a) (b:=b) (c:=c) (d:=d) (es:=es) (fl:=fl) U U hl.symm) (by kernel_rfl) (by kernel_rfl) (fun v hv=>by obtain⟨p,-,rfl⟩:=qak.1 hv;rfl)
   (fun i M w'=>(M=fun y=>y=b14)/\Ctx w0 [] w' [(b14,Bl 2 (BF (Em g x i) nn)),(x3,Bl 41 [.slice b fl.length d]),(x2,Bl 53 [.int .i64 (nn:Int),.slice a es.length c]),(b5,Bl 41 [.slice (some ⟨b14,0,none⟩) nn nn]),(b2,Bl 53 [.int .i64 (nn:Int),.slice a es.length c])]) (fun _=>False) (by simp)
   (fun w2 hx2 _=>⟨_,rfl,H3.call hx2⟩) (fun i M w' w'' hJ hx=>⟨hJ.1,hJ.2.step hx (fun y hy=>?_) fun z hz => .inr ?_⟩) (fun _ _ h _=>h) (fun i M w' hJ=>⟨fun y hy=>?_,hJ.2.get at2,hJ.2.get at1,R.ext0 hJ.2.ext,Rf.ext0 hJ.2.ext⟩) ?_ ?_ (fun _ h _=>h.elim)
  .simp only[qaf,qan,or_false]at hy |-
   rcases hy with rfl|rfl|rfl|rfl|rfl <;> (dsimp only;omega)
  .simp only[qaf,qan,or_false]at hz;omega
  .rw[hJ.1]at hy;subst hy;exact⟨AX<|hJ.2.get at0,by omega,by omega⟩
  .rintro i v _ w hxv ⟨rfl,HJ⟩ hsz;rw[qa9]at hxv;obtain⟨⟨e,xx⟩,hez,rfl⟩:=qdc.1 hxv;obtain⟨he,hfx⟩:=qcc.1 hez;have hi:=BH he;obtain⟨hf0,hfN,ht0,htN,-⟩:=Dw<|hed e<|qad he;obtain⟨fn,hfn⟩:∃fn:Nat,e.f=fn:=⟨e.f.toNat,by omega⟩;obtain⟨tn,htn⟩:∃tn:Nat,e.t=tn:=⟨e.t.toNat,by omega⟩;have hgf:g.f i=fn:=by rw[hg];show((es.getD i e0).f.toNat)=fn;rw[Bp he,hfn];rfl
   have hgt:g.t i=tn:=by rw[hg];show((es.getD i e0).t.toNat)=tn;rw[Bp he,htn];rfl
   have hxi:x i=xx:=by rw[hx];exact Bp hfx
   have hxb:∀j,j<i+1->0<=x j/\x j<=4503599627370496:=fun j hj=>by
    obtain⟨e',he'⟩:=Au (l:=es) (i:=j);obtain⟨y,hy⟩:=Au (l:=fl) (i:=j);have h3:=hin j e' y he' hy;have h4:=Dw<|hed e'<|qad he';rw[hx];show 0<=fl.getD j 0/\fl.getD j 0<=4503599627370496;rw[Bp hy];omega
   have hbf:=GG (g:=g) (x:=x) fn (k:=i) fun j hj=>hxb j (by omega);have hbt:=GG (g:=g) (x:=x) tn (k:=i) fun j hj=>hxb j (by omega);have hxx:=hxb i (by omega);rw[hxi]at hxx;obtain⟨o',ho'⟩:∃o',o'=upd (Em g x i) fn (Em g x i fn - xx):=⟨_,rfl⟩;have hof:o' fn=Em g x i fn - xx:=by rw[ho',CI]
   have hon:∀q,q≠fn->o' q=Em g x i q:=fun q hq=>by rw[ho',Dy hq]
   have hot : -(201*4503599627370496)<=o' tn/\o' tn<=201*4503599627370496:=by
    by_cases h:tn=fn
    .rw[h,hof];omega
    .rw[hon tn h];omega
   have hst:∀q,Em g x (i+1) q=upd o' tn (o' tn+xx) q:=fun q=>by
    rw[G1,hgf,hgt,hxi]
    by_cases h1:q=tn
    .subst h1;rw[CI,EM rfl]
     by_cases h2:fn=q
     .subst h2;rw[EM rfl,hof];omega
     .rw[E3 h2,hon q<|Ne.symm h2];omega
    .rw[Dy h1,E3<|Ne.symm h1]
     by_cases h2:fn=q
     .subst h2;rw[EM rfl,hof];omega
     .rw[E3 h2,hon q<|Ne.symm h2];omega
   obtain⟨w1,rfl,H⟩:=qE w;refine qG 2 ?_;rintro b6 w - H;refine AM qf U U U (by exact Eg _) H at0 U ?_;rintro w H;refine qG 5 ?_;refine⟨H.ext,fun wB hxB=>?_⟩;have hb6:=(H.own _<|qah ..).elim (fun h=>by cases h) id
   have HB:=((HJ.callAdd H.ext (H.get at0) hb6).step hxB (fun y hy=>by
    simp only[qaf,qan,or_false]at hy |-
    rcases hy with rfl|rfl|rfl|rfl|rfl|rfl <;> (dsimp only;omega)) fun z hz => .inr (by rw[qab.1 hz];omega)).perm<|List.Perm.swap _ _ _
   obtain⟨w2,rfl⟩:=qD wB;have hb6B:=HB.get at1;have hb5B:=HB.get at4;have hn6:b6∉[b14]:=by rw[qab];omega
   have hn5:b5∉[b14]:=by rw[qab];exact HB.ne at4 at0<|by decide
   have H:=Ctx.lend (L1:=[_]) (L2:=_) HB;dsimp only[List.map]at H;refine AK<|Af<|A9 qf U ((H.old (Ai hb5B _) hn5))<|Ae qf U<|A9 qf U ((H.old (Ai hb6B _) hn6))<|BA qf qf U U<|P6 fn _ U qf U H at0 (by rw[hfn];simp) U ?_;refine qG 3 ?_;refine BZ fn (fun q => .int .i64 (o' q)) (.int _ _) qf U U U H at0 (by rw[hfn];simp) (by rw[hof]) (fun q _ hq=>by rw[hon q hq]) ?_;rintro w H;refine qA<|Aw<|A9 qf U ((H.old (Ai hb5B _) hn5))<|Ae qf U<|A9 qf U ((H.old (Ai hb6B _) hn6))<|BA qf qf U U<|P6 tn _ U qf U H at0 (by rw[htn];simp) U ?_;refine qG 3 ?_;refine BZ tn (fun q => .int .i64 (Em g x (i+1) q)) (.int _ _) qf U U U H at0 (by rw[htn];simp) (by rw[hst,CI]) (fun q _ hq=>by rw[hst,Dy hq]) ?_;rintro w H;refine Ab<|Av ?_
   exact⟨_,⟨rfl,((Ctx.back (L1:=[_]) (L1':=[_]) HB H).perm<|List.Perm.swap _ _ _).tail⟩,fun y h => .inl h,[b14],H.ext,fun y hy => .inl (qab.1 hy)⟩
  .rintro M w ⟨-,HJ⟩ hD;rw[qaj,qb3,hl,qdq]at HJ;replace H:=HJ;refine Av<|Aa<|Af<|Bh qf U H at3 U<|AP U<|qA<|Bf<|Kt (v:=(.slice _ _ _)) U U<|Gy hD U fun wF hxF=>?_;refine⟨fun h=>(by rw[h1']at h;cases h),fun _=>⟨b14,rfl,?_,?_⟩,H.ext.then hxF fun z hz => .inr (by rw[qab.1 hz];omega)⟩
   .rw[hxF.block b14 (AX<|H.get at0) (by rw[qab];omega)];have h3:=H.get at0;rw[show BJ (grE (nn:Int) es) (flE fl)=Em g x es.length by rw[hg,hx];rfl];exact h3
   .exact(H.own (b14,_)<|qad (i:=0) U).elim (fun h=>by cases h) id
theorem Y9(N:Int)(a b:Option Addr)(n c m d:Nat)(es:List Ed)(fl:List Int)(w:World)(R:Rd w a 4 Co es)(hn:es.length=n)(hN:I64 N)(Rf:Rd w b 1 I1 fl)(hm:fl.length=m)(hm2:m<=9223372036854775000) :
  Ret prog 187 #[CM N a n c,.slice b m d] w fun v w'=>v=.bool (Ei N es fl)/\Ext [] w w':=by
 subst hn hm;obtain⟨w0,rfl,H⟩:=qE w;refine iG func187 U<|Af<|Be [.int .i64 N,.slice a es.length c] (.agg _) U U H ?_;rintro b2 w - H;refine qG 7 ?_;refine Aj qB (Jy N a b es.length c fl.length d es fl _ (R.ext0 H.ext) U hN (Rf.ext0 H.ext) U hm2) U ?_;rintro v w ⟨rfl,hx9⟩;replace H:=H.call hx9;refine qGp 3 ?_ ?_
 .intro h1;refine qG 7 ?_;have h1':BO N es fl=false:=by simpa using h1
  exact⟨qaa Value.bool (by unfold Ei;rw[h1'];rfl),H.ext⟩
 .intro h1;have h1':BO N es fl=true:=by simpa using h1
  have hfN:Ei N es fl=(JH N es fl).all fun x=>decide (x=0):=by unfold Ei;rw[h1'];rfl
  obtain⟨hN1,hN40,-⟩:=Cr (Cj h1').2.1;obtain⟨nn,rfl⟩:∃nn:Nat,N=(nn:Int):=⟨N.toNat,by omega⟩;refine qG 6 ?_;refine Aj qB (Acj (nn:Int) a b es.length c fl.length d es fl _ (R.ext0 H.ext) U hN (Rf.ext0 H.ext) U hm2) U ?_;rintro v w ⟨-,hv,hx13⟩;obtain⟨b13,rfl,hb13,hs13⟩:=hv h1';replace H:=H.call hx13;have R7:=Cv hb13;rw[show((nn:Int)).toNat=nn from rfl]at R7 |-;refine qG 5 ?_;have hov:JH (nn:Int) es fl=tab (BJ (grE (nn:Int) es)<|flE fl) nn:=rfl;rw[<-hov]at R7;have hlen:(JH (nn:Int) es fl).length=nn:=by rw[hov,CP]
  obtain⟨w7,rfl⟩:=qD w;refine AY 4161616 (α:=Nat) (fun i=>[(15,.int .i64 (i:Int))]) (fun i w'=>i<=nn/\Ext [] w7 w'/\Ctx w0 [] w' [(b2,Bl 53 [.int .i64 (nn:Int),.slice a es.length c])]/\∀(k:Nat) (x:Int),k<i->(JH (nn:Int) es fl)[k]?=some x->decide (x=0)=true) (fun i=>nn - i) 0 U ?_ ?_ ?_
  .exact⟨rfl,trivial⟩
  .exact⟨qai _,.refl _ _,H,fun k x h=>absurd h<|qay _⟩
  .rintro i j w ⟨hi,hx7,H,hb⟩;refine qGp 5 ?_ ?_
   .intro h2;obtain⟨x,h7x⟩:=Au (l:=JH (nn:Int) es fl) (i:=i);refine qG 5 ?_;refine A2 R7 qf qf U U (by omega)<|A9 qf U (((R7.ext0 hx7).fld h7x U (j:=0) U)) ?_;refine qGp 8 ?_ ?_
    .intro h3;refine qG 11 ?_;exact⟨qaa Value.bool<|by rw[hfN,C2 h7x<|qa1<|by simpa using h3],H.ext⟩
    .intro h3;refine A1<|Av<|Aa<|Aw<|Ap U U ?_;refine Ad U<|qA ?_;refine⟨i+1,rfl,⟨rfl,trivial⟩,⟨by omega,hx7,H,fun k y hk hy=>?_⟩,by omega⟩
     rcases qao k i with h7|h7
     .exact hb k y h7 hy
     .obtain rfl:k=i:=by omega
      rw[h7x]at hy;cases hy
      simpa using h3
   .intro h2;refine Bi<|Am<|Am<|A8<|Aa<|Af<|A5 U<|qA<|Bf<|B6 (v:=(.bool _)) U U U ?_;exact⟨qaa Value.bool<|by rw[hfN,CN fun k x hk hx=>hb k x (by omega) hx],H.ext⟩
theorem E4{es:List Ed}(h:Ei N es fl=true):BO N es fl=true/\∀v,v<N.toNat->BJ (grE N es) (flE fl) v=0:=by
 unfold Ei JH at h;rw[qag]at h;refine⟨h.1,fun v hv=>?_⟩;have h2:=qaw.1 h.2 _<|qad<|BP hv
 simpa using h2
end Go.Proofs.YtfnfnmgilmejmaaGreat
