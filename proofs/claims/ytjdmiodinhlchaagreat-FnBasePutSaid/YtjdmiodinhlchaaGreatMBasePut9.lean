/- Lemmas (several texts in one). -/
import Derived.Test.YtjdmiodinhlchaaGreatMBasePut4
import Derived.Test.YtjdmiodinhlchaaGreatMBasePut5
import Derived.Test.YtjdmiodinhlchaaGreatMBasePut6
import Derived.Test.YtjdmiodinhlchaaGreatMBasePut7
import Derived.Test.YtjdmiodinhlchaaGreatMBasePut8
set_option maxRecDepth 100000
set_option linter.unusedSimpArgs false
set_option linter.unusedVariables false
namespace Go.Proofs.YtjdmiodinhlchaaGreat.Code
open Go Go.Ev Go.Proofs
abbrev Rz (bs:List Int):D:= .vals 1 (bs.map (.int .u8))
def rd (bs:List Int) (p:Int):Ev.Obj:= .row 0 2 [.d (.agg [Rz bs, .int .i64 p])]
theorem Yk {H:Hp} {r:Nat} {bs:List Int} {p:Int} (h:Ce H r=some (rd bs p)):Di H r 0=some (2,[.d (.agg [Rz bs, .int .i64 p])]):=by
 simp[Di,h,rd]
theorem Br6 {H:Hp} {r:Nat} {bs:List Int} {p:Int} (h:Ce H r=some (rd bs p)):D5 H r 0 0 0 1=some [.d (Rz bs)]:=by
 simp[D5,Yk h,V.cells]
theorem Bhs {H:Hp} {r:Nat} {bs:List Int} {p:Int} (h:Ce H r=some (rd bs p)):D5 H r 0 0 1 1=some [.d (.int .i64 p)]:=by
 simp[D5,Yk h,V.cells]
theorem Br7 {H:Hp} {r:Nat} {bs:List Int} {p q:Int} (h:Ce H r=some (rd bs p)):M4 H r 0 0 1 [.d (.int .i64 q)]=some (Bv H r (rd bs q)):=by
 simp[M4,Yk h,V.cells,Ls,V.isAgg,M9,Gw,rd]
theorem Ld {H:Hp} {r:Nat} {o:Ev.Obj} :Dl (Bv H r o) (Bc H)=Bv H r o:=by
 have:=Gu (Bv H r o)
 rwa[Br] at this
def Cy (bs:List Int):Prop:=bs.length≤2000∧∀i,0≤bs.getD i 0∧bs.getD i 0≤255
theorem Xz (bs:List Int) (i:Nat) (hi:i<bs.length): (bs.map (D.int .u8)).getD i .nilp= .int .u8 (bs.getD i 0):=by
 simp[List.getD_eq_getElem?_getD,hi]
theorem Bur (x y:Int) (hx:0≤x) (hx2:x<9223372036854775808) (hy:0≤y) (hy2:y<9223372036854775808): ∃z,Uq .xor .i64 x y=some z∧0≤z:=by
 obtain⟨a,rfl⟩:=Int.eq_ofNat_of_zero_le hx
 obtain⟨b,rfl⟩:=Int.eq_ofNat_of_zero_le hy
 have ha:a<2 ^ 63:=by omega
 have hb:b<2 ^ 63:=by omega
 have hlt:a ^^^ b<2 ^ 63:=Nat.xor_lt_two_pow ha hb
 have e: ((BitVec.ofInt 64 (a:Int) ^^^ BitVec.ofInt 64 (b:Int)).toNat:Int)=((a ^^^ b:Nat):Int):=by
  rw[BitVec.ofInt_natCast,BitVec.ofInt_natCast,BitVec.toNat_xor,BitVec.toNat_ofNat,BitVec.toNat_ofNat,Nat.mod_eq_of_lt (by omega),Nat.mod_eq_of_lt (by omega)]
 refine⟨((a ^^^ b:Nat):Int), ?_,by omega⟩
 show some (IntKind.i64.wrap ((BitVec.ofInt 64 (a:Int) ^^^ BitVec.ofInt 64 (b:Int)).toNat:Int))=_
 rw[e,IntWalk.i64_in _ (by omega)]
def Zk (bs:List Int) (p:Int):Int:=
 bs.getD (p.tmod bs.length).toNat 0*131+bs.getD ((p*7+3).tmod bs.length).toNat 0*1117+p*29+p.tdiv bs.length*53
def Cr (bs:List Int) (p n:Int):Int:=
 if n<1 then 0 else if bs.length=0 then 0 else if p<bs.length then(bs.getD p.toNat 0).tmod n else((Uq .xor .i64 (Zk bs p) ((Zk bs p).tdiv 64)).getD 0).tmod n
theorem Bnu (H:Hp) (r:Nat) (bs:List Int) (p n:Int) (h:Ce H r=some (rd bs p)) (hb:Cy bs) (hp:0≤p) (hp2:p≤1000000000000):ev R 54 [.ptr r 0 0 0, .d (.int .i64 n)] H=some (.d (.int .i64 (Cr bs p n)),Bv H r (rd bs (p+1))):=by
 refine Bh (fn:=f54) rfl rfl ?_
 have w1:IntKind.i64.wrap (p+1)=p+1:=IntWalk.i64_in _ (by omega)
 have w2:IntKind.i64.wrap p=p:=IntWalk.i64_in _ (by omega)
 have hl:=Dy h
 have h1:Ce (Bv H r (rd bs (p+1))) r=some (rd bs (p+1)):=Cw _ hl
 have a0:=Br6 h1
 have a1:=Bhs h1
 have b1:=Bhs h
 have st:=Br7 (q:=p+1) h
 unfold Cr
 by_cases hn:n<1
 ·simp[Cu,-List.getD_eq_getElem?_getD,-List.map_map,f54,w1,w2,a0,a1,b1,st,hn,Ld]
 ·by_cases hz:bs.length=0
  ·have hz':bs=[]:=List.eq_nil_of_length_eq_zero hz
   subst hz'
   simp[Cu,-List.getD_eq_getElem?_getD,-List.map_map,f54,w1,w2,a0,a1,b1,st,hn,Ld]
  ·have hz': ¬bs=[]:=fun e=>hz (by subst e;rfl)
   have n0: ¬n=0:=by omega
   by_cases hlt:p< (bs.length:Int)
   ·have g:=Xz bs p.toNat (by omega)
    have bb:=hb.2 p.toNat
    have w3:IntKind.i64.wrap (bs.getD p.toNat 0)=bs.getD p.toNat 0:=IntWalk.i64_in _ (by omega)
    simp[Cu,-List.getD_eq_getElem?_getD,-List.map_map,f54,w1,w2,w3,a0,a1,b1,st,hn,hz,hz',hp,hlt,g,n0,Ld]
   ·have L0: (0:Int)<bs.length:=by omega
    have lz: ¬ (bs.length:Int)=0:=by omega
    have i1:0≤p.tmod bs.length:=Int.tmod_nonneg _ hp
    have i2:p.tmod bs.length<bs.length:=Int.tmod_lt_of_pos _ L0
    have j1:0≤(p*7+3).tmod bs.length:=Int.tmod_nonneg _ (by omega)
    have j2: (p*7+3).tmod bs.length<bs.length:=Int.tmod_lt_of_pos _ L0
    have g1:=Xz bs (p.tmod bs.length).toNat (by omega)
    have g2:=Xz bs ((p*7+3).tmod bs.length).toNat (by omega)
    have c1:=hb.2 (p.tmod bs.length).toNat
    have c2:=hb.2 ((p*7+3).tmod bs.length).toNat
    have d0:0≤p.tdiv bs.length∧p.tdiv bs.length≤p:=by
     rw[Int.tdiv_eq_ediv_of_nonneg hp]
     exact⟨Int.ediv_nonneg hp (by omega),Int.ediv_le_self _ hp⟩
    obtain⟨X,hX⟩: ∃X,X=Zk bs p:=⟨_,rfl⟩
    have hXe:=hX
    unfold Zk at hXe
    rw[←hX]
    generalize bs.getD (p.tmod bs.length).toNat 0=x1 at g1 c1 hXe⊢
    generalize bs.getD ((p*7+3).tmod bs.length).toNat 0=x2 at g2 c2 hXe⊢
    generalize hq:p.tdiv bs.length=q at d0 hXe⊢
    have xb:0≤X∧X<9223372036854775807:=by omega
    have t0:0≤X.tdiv 64∧X.tdiv 64≤X:=by
     rw[Int.tdiv_eq_ediv_of_nonneg xb.1]
     omega
    obtain⟨z,hz1,hz2⟩:=Bur X (X.tdiv 64) xb.1 (by omega) t0.1 (by omega)
    have v1:IntKind.i64.wrap x1=x1:=IntWalk.i64_in _ (by omega)
    have v2:IntKind.i64.wrap (x1*131)=x1*131:=IntWalk.i64_in _ (by omega)
    have v3:IntKind.i64.wrap (p*7)=p*7:=IntWalk.i64_in _ (by omega)
    have v4:IntKind.i64.wrap (p*7+3)=p*7+3:=IntWalk.i64_in _ (by omega)
    have v5:IntKind.i64.wrap x2=x2:=IntWalk.i64_in _ (by omega)
    have v6:IntKind.i64.wrap (x2*1117)=x2*1117:=IntWalk.i64_in _ (by omega)
    have v7:IntKind.i64.wrap (x1*131+x2*1117)=x1*131+x2*1117:=IntWalk.i64_in _ (by omega)
    have v8:IntKind.i64.wrap (p*29)=p*29:=IntWalk.i64_in _ (by omega)
    have v9:IntKind.i64.wrap (x1*131+x2*1117+p*29)=x1*131+x2*1117+p*29:=IntWalk.i64_in _ (by omega)
    have v10:IntKind.i64.wrap q=q:=IntWalk.i64_in _ (by omega)
    have v11:IntKind.i64.wrap (q*53)=q*53:=IntWalk.i64_in _ (by omega)
    have v12:IntKind.i64.wrap (x1*131+x2*1117+p*29+q*53)=X:=by rw[hXe];exact IntWalk.i64_in _ (by omega)
    have v13:IntKind.i64.wrap (X.tdiv 64)=X.tdiv 64:=IntWalk.i64_in _ (by omega)
    simp[Cu,-List.getD_eq_getElem?_getD,-List.map_map,f54,w1,w2,a0,a1,b1,st,hn,hz,hz',hlt,n0,lz,Ld,i1,i2,j1,j2,g1,g2,hq,v1,v2,v3,v4,v5,v6,v7,v8,v9,v10,v11,v12,v13,hz1]
theorem Gd (bs:List Int) (p n:Int) (hb:Cy bs) (hp:0≤p) (hp2:p≤1000000000000):0≤Cr bs p n∧(1≤n→Cr bs p n<n):=by
 unfold Cr
 split
 ·omega
 ·split
  ·omega
  ·split
   ·have:=hb.2 p.toNat
    exact⟨Int.tmod_nonneg _ this.1,fun h=>Int.tmod_lt_of_pos _ (by omega)⟩
   ·rename_i h1 h2 h3
    have c1:=hb.2 (p.tmod bs.length).toNat
    have c2:=hb.2 ((p*7+3).tmod bs.length).toNat
    have d0:0≤p.tdiv bs.length∧p.tdiv bs.length≤p:=by
     rw[Int.tdiv_eq_ediv_of_nonneg hp]
     exact⟨Int.ediv_nonneg hp (by omega),Int.ediv_le_self _ hp⟩
    have xb:0≤Zk bs p∧Zk bs p<9223372036854775807:=by
     unfold Zk
     omega
    have t0:0≤(Zk bs p).tdiv 64∧(Zk bs p).tdiv 64≤Zk bs p:=by
     rw[Int.tdiv_eq_ediv_of_nonneg xb.1]
     omega
    obtain⟨z,hz1,hz2⟩:=Bur (Zk bs p) ((Zk bs p).tdiv 64) xb.1 (by omega) t0.1 (by omega)
    rw[hz1]
    exact⟨Int.tmod_nonneg _ hz2,fun h=>Int.tmod_lt_of_pos _ (by omega)⟩
def ofV (bs:List Int) (p:Int) (xs:List Bp):Bp:=xs.getD (Cr bs p xs.length).toNat []
theorem By7 (H:Hp) (r:Nat) (bs:List Int) (p:Int) (xs:List Bp) (h:Ce H r=some (rd bs p)) (hb:Cy bs) (hp:0≤p) (hp2:p≤1000000000000) (hx:0<xs.length):ev R 29 [.ptr r 0 0 0, .d (Bf xs)] H=some (.d (.str (ofV bs p xs)),Bv H r (rd bs (p+1))):=by
 refine Bh (fn:=f29) rfl rfl ?_
 have q:=Bnu H r bs p xs.length h hb hp hp2
 obtain⟨k0,k1⟩:=Gd bs p xs.length hb hp hp2
 have k1:=k1 (by omega)
 have g:=Dv xs (Cr bs p xs.length).toNat (by omega)
 simp[Cu,-List.getD_eq_getElem?_getD,-List.map_map,f29,Bf,q,k0,k1,g,Ld,ofV]
def Sg (s:Bp) (n:Nat) (out:Bp):Bp:=
 if h:n=0 then out else Sg (s++s) (n / 2) (if n % 2=1 then out++s else out)
termination_by n
decreasing_by omega
theorem B1e (n0:Nat) (H:Hp): ∀ (n:Nat) (s out:Bp) (e:Env),n≤1000→out.length+s.length*n≤1000000→s.length≤2000000→e.get 0= .d (.str s)→e.get 1= .d (.int .i64 n)→e.get 5= .d (.str out)→
  ∃e',Bg (Bq (ev R) R.glob n0 Bg X8) [0,1,5] ⟨e,H⟩=some (.exit 0,⟨e',H⟩)∧e'.get 5= .d (.str (Sg s n out)):=by
 intro n
 induction n using Nat.strongRecOn with
 |_ n ih=>
  intro s out e hn hl hsl h0 h1 h5
  by_cases hz:n=0
  ·subst hz
   rw[Co]
   refine⟨?_, ?_, ?_⟩
   rotate_left
   ·simp[Cu,-List.getD_eq_getElem?_getD,-List.map_map,X8,h0,h1,h5]
    rfl
   ·rw[Sg]
    simp[Cu,-List.getD_eq_getElem?_getD,-List.map_map,h5]
  ·have c: (0:Int)< (n:Int):=by omega
   have c':0<n:=by omega
   have m2:IntKind.i64.wrap ((n:Int).tdiv 2)=((n / 2:Nat):Int):=by
    rw[Int.tdiv_eq_ediv_of_nonneg (by omega),IntWalk.i64_in _ (by omega)];omega
   have m3:IntKind.i64.wrap ((n:Int) / 2)=((n / 2:Nat):Int):=by
    rw[IntWalk.i64_in _ (by omega)];omega
   have hmul:s.length*(n / 2)*2≤s.length*n:=by
    rw[Nat.mul_assoc]
    exact Nat.mul_le_mul_left _ (by omega)
   have hmul1:s.length*1≤s.length*n:=Nat.mul_le_mul_left _ (by omega)
   have l2:s.length+s.length≤Gr:=by unfold Gr;omega
   have l3:out.length+s.length≤Gr:=by unfold Gr;omega
   have hd: (s++s).length*(n / 2)=s.length*(n / 2)*2:=by rw[List.length_append,Nat.add_mul];omega
   have hsq: (s++s).length≤2000000:=by rw[List.length_append];omega
   have hodd:s.length*n=s.length*(n / 2)*2+s.length*(n % 2):=by
    rw[Nat.mul_assoc,←Nat.mul_add]
    congr 1
    omega
   rw[Co]
   have ih':=ih (n / 2) (by omega) (s++s) (if n % 2=1 then out++s else out)
   rw[Sg,dif_neg hz]
   generalize Sg (s++s) (n / 2) (if n % 2=1 then out++s else out)=M at ih'⊢
   generalize Bg (Bq (ev R) R.glob n0 Bg X8) [0,1,5]=F at ih'⊢
   by_cases odd:n % 2=1
   ·have m1: (n:Int).tmod 2=1:=by rw[Int.tmod_eq_emod_of_nonneg (by omega)];omega
    rw[odd] at hodd
    simp only[odd,if_true] at ih'
    simp[Cu,-List.getD_eq_getElem?_getD,-List.map_map,X8,h0,h1,h5,c,c',m1,m2,m3,l2,l3]
    refine ih' _ (by omega) ?_ hsq ?_ ?_ ?_
    ·rw[hd,List.length_append];omega
    all_goals rfl
   ·have m1: (n:Int).tmod 2=0:=by rw[Int.tmod_eq_emod_of_nonneg (by omega)];omega
    simp only[odd,if_false] at ih'
    simp[Cu,-List.getD_eq_getElem?_getD,-List.map_map,X8,h0,h1,h5,c,c',m1,m2,m3,l2,l3]
    refine ih' _ (by omega) ?_ hsq ?_ ?_ ?_
    ·rw[hd];omega
    all_goals rfl
theorem Bxx (H:Hp) (s:Bp) (n:Nat) (hn:n≤1000) (hs:s.length≤1000):ev R 100 [.d (.str s), .d (.int .i64 n)] H=some (.d (.str (Sg s n [])),H):=by
 refine Bh (fn:=f100) rfl rfl ?_
 have hm:s.length*n≤1000*1000:=Nat.mul_le_mul hs hn
 obtain⟨e',he,h5⟩:=B1e (Bc H) H n s [] [(0, .d (.str s)),(1, .d (.int .i64 n)),(5, .d (.str []))] hn (by simp;omega) (by omega) rfl rfl rfl
 simp[Cu,-List.getD_eq_getElem?_getD,-List.map_map,f100,he,h5]
def Kz:List Bp:=[[],[97],[98],[99],[53],[45,51],[104,101,108,108,111],[13,10],[255],Sg [120] 40 [],[57,57,57,57,57,57,57,57,57]]
def Lh (bs:List Int) (p:Int):Bp:=ofV bs p Kz
theorem By8 (H:Hp) (r:Nat) (bs:List Int) (p:Int) (h:Ce H r=some (rd bs p)) (hb:Cy bs) (hp:0≤p) (hp2:p≤1000000000000):ev R 75 [.ptr r 0 0 0] H=some (.d (.str (Lh bs p)),Bv H r (rd bs (p+1))):=by
 refine Bh (fn:=f75) rfl rfl ?_
 have q:=By7 H r bs p Kz h hb hp hp2 (by simp[Kz])
 have m:Be (ev R) 100 [.d (.str [120]), .d (.int .i64 40)]=some (.d (.str (Sg [120] 40 []))):=Bb fun H=>Bxx H [120] 40 (by omega) (by simp)
 unfold Lh
 simp only[Kz,Bf,List.map_cons,List.map_nil] at q⊢
 simp[Cu,-List.getD_eq_getElem?_getD,-List.map_map,f75,m,q,Ld]
theorem Bgv (s:Bp) (n:Nat) (out:Bp): (Sg s n out).length=out.length+s.length*n:=by
 induction n using Nat.strongRecOn generalizing s out with
 |_ n ih=>
  rw[Sg]
  split
  ·rename_i h;subst h;simp
  ·rw[ih (n / 2) (by omega)]
   have hodd:s.length*n=s.length*(n / 2)*2+s.length*(n % 2):=by
    rw[Nat.mul_assoc,←Nat.mul_add]
    congr 1
    omega
   have hd: (s++s).length*(n / 2)=s.length*(n / 2)*2:=by rw[List.length_append,Nat.add_mul];omega
   rw[hd]
   split
   ·rename_i h;rw[h] at hodd;rw[List.length_append];omega
   ·rename_i h;have:n % 2=0:=by omega
    rw[this] at hodd;omega
theorem Wz (bs:List Int) (p:Int) (xs:List Bp) (m:Nat) (h: ∀x∈xs,x.length≤m): (ofV bs p xs).length≤m:=by
 unfold ofV
 by_cases hi: (Cr bs p xs.length).toNat<xs.length
 ·rw[List.getD_eq_getElem?_getD,List.getElem?_eq_getElem hi]
  exact h _ (List.getElem_mem hi)
 ·rw[List.getD_eq_getElem?_getD,List.getElem?_eq_none (by omega)]
  exact Nat.zero_le _
theorem Nn (bs:List Int) (p:Int): (Lh bs p).length≤40:=by
 refine Wz bs p Kz 40 fun x hx=> ?_
 have hm:=Bgv [120] 40 []
 simp only[Kz,List.mem_cons,List.not_mem_nil,or_false] at hx
 rcases hx with rfl|rfl|rfl|rfl|rfl|rfl|rfl|rfl|rfl|rfl|rfl<;>first| (rw[hm];simp) |simp
def Md (bs:List Int):List Int:=bs.take 2000
theorem Boc (bs:List Int) (h: ∀i,0≤bs.getD i 0∧bs.getD i 0≤255):Cy (Md bs):=by
 refine⟨by simp[Md];omega,fun i=> ?_⟩
 by_cases hi:i<2000
 ·have: (Md bs).getD i 0=bs.getD i 0:=by simp[Md,List.getD_eq_getElem?_getD,List.getElem?_take,hi]
  rw[this];exact h i
 ·have: (Md bs).getD i 0=0:=by simp[Md,List.getD_eq_getElem?_getD,List.getElem?_take,hi]
  rw[this];omega
theorem B5a (H:Hp) (bs:List Int):ev R 27 [.d (Rz bs)] H=some (.ptr (Bc H) 0 0 0,Bt H (rd (Md bs) 0)):=by
 refine Bh (fn:=f27) rfl rfl ?_
 by_cases hb:2000< (bs.length:Int)
 ·have h1:2000≤bs.length:=by omega
  have h2: (2000:Int)≤bs.length:=by omega
  simp[Cu,-List.getD_eq_getElem?_getD,-List.map_map,f27,hb,h1,h2,Dp,Qi,Bd7,rd,Md,Ug]
  simp only[Rz,List.map_take]
 ·have h1: ¬2000<bs.length:=by omega
  have e:bs.take 2000=bs:=List.take_of_length_le (by omega)
  simp[Cu,-List.getD_eq_getElem?_getD,-List.map_map,f27,hb,h1,Qi,Bd7,rd,Md,e,Ug]
def Qf (n:Nat):Bp:=if h:n<10 then[UInt8.ofNat (48+n)] else Qf (n / 10)++[UInt8.ofNat (48+n % 10)]
termination_by n
decreasing_by omega
theorem Bfz (n:Nat): (Qf n).length≤n+1:=by
 induction n using Nat.strongRecOn with
 |_ n ih=>
  rw[Qf]
  split
  ·simp
  ·have:=ih (n / 10) (by omega)
   rw[List.length_append]
   simp only[List.length_singleton]
   omega
theorem B08 (n:Nat): ∀ (H:Hp),n≤1000000000→ev R 83 [.d (.int .i64 n)] H=some (.d (.str (Qf n)),H):=by
 induction n using Nat.strongRecOn with
 |_ n ih=>
  intro H hn
  refine Bh (fn:=f83) rfl rfl ?_
  have c1: ¬ (n:Int)< -9223372036854775807:=by omega
  have c2: ¬ (n:Int)<0:=by omega
  by_cases c3:n<10
  ·have c3': (n:Int)<10:=by omega
   have w1:IntKind.i64.wrap (48+(n:Int))=48+n:=IntWalk.i64_in _ (by omega)
   have w2:IntKind.u8.wrap (48+(n:Int))=48+n:=IntWalk.u8_in _ (by omega)
   have t: (48+(n:Int)).toNat=48+n:=by omega
   rw[Qf,dif_pos c3]
   simp[Cu,-List.getD_eq_getElem?_getD,-List.map_map,f83,c1,c2,c3,c3',w1,w2,t,Rm,Zf]
  ·have c3': ¬ (n:Int)<10:=by omega
   have q:Be (ev R) 83 [.d (.int .i64 ((n / 10:Nat):Int))]=some (.d (.str (Qf (n / 10)))):=Bb fun H=>ih (n / 10) (by omega) H (by omega)
   obtain⟨k,hk⟩: ∃k:Int,((n / 10:Nat):Int)=k:=⟨_,rfl⟩
   obtain⟨d,hd⟩: ∃d:Int,(n:Int).tmod 10=d:=⟨_,rfl⟩
   have hd':d=((n % 10:Nat):Int):=by rw[←hd,Int.tmod_eq_emod_of_nonneg (by omega)];omega
   rw[hk] at q
   have w0:IntKind.i64.wrap ((n:Int).tdiv 10)=k:=by rw[Int.tdiv_eq_ediv_of_nonneg (by omega),IntWalk.i64_in _ (by omega)];omega
   have w0':IntKind.i64.wrap ((n:Int) / 10)=k:=by rw[IntWalk.i64_in _ (by omega)];omega
   have hd2: (n:Int) % 10=d:=by omega
   have w1:IntKind.i64.wrap (48+d)=48+d:=IntWalk.i64_in _ (by omega)
   have w2:IntKind.u8.wrap (48+d)=48+d:=IntWalk.u8_in _ (by omega)
   have t: (48+d).toNat=48+n % 10:=by omega
   have hl:=Bfz (n / 10)
   have l: (Qf (n / 10)).length+1≤Gr:=by unfold Gr;omega
   rw[Qf,dif_neg c3]
   simp[Cu,-List.getD_eq_getElem?_getD,-List.map_map,f83,c1,c2,c3,c3',q,w0,w0',hd,hd2,w1,w2,t,l,Rm,Zf]
theorem Pw (xs:List Sc) (i:Nat) (hi:i<xs.length): (xs.map Jq).getD i .nilp= .agg [.str (xs.getD i ([],0)).1, .int .i64 (xs.getD i ([],0)).2]:=by
 simp[Jq,List.getD_eq_getElem?_getD,hi]
theorem Xc (xs:List Pr) (i:Nat) (hi:i<xs.length): (xs.map Ka).getD i .nilp= .agg [.str (xs.getD i ([],[])).1, .str (xs.getD i ([],[])).2]:=by
 simp[Ka,List.getD_eq_getElem?_getD,hi]
theorem Bf2 (H:Hp) (s:Bp):ev R 55 [.d (.str s)] H=some (.d (.bool (decide ((s.length:Int)≥1) &&decide ((s.length:Int)≤12))),H):=by
 refine Bh (fn:=f55) rfl rfl ?_
 have p:=Pg (s.length:Int) 1 12
 simp[Cu,-List.getD_eq_getElem?_getD,-List.map_map,f55,p]
theorem Bje (H:Hp) (s:Bp):ev R 64 [.d (.str s)] H=some (.d (.bool (decide ((s.length:Int)≥1) &&decide ((s.length:Int)≤12))),H):=by
 refine Bh (fn:=f64) rfl rfl ?_
 have p:=Bcs (s.length:Int) 1 12
 simp[Cu,-List.getD_eq_getElem?_getD,-List.map_map,f64,p]
def Fj (p:Nat→Bool):Nat→Nat→Bool
 |0,_=>false
 |n+1,i=>p i||Fj p n (i+1)
def Lf (xs:List Bp) (i:Nat):Bool:= !Op.bytesLess (xs.getD (i - 1) []) (xs.getD i [])
def Gi (xs:List Bp):Bool:= !Fj (Lf xs) (xs.length - 1) 1&&Cq xs
theorem B1l (n0:Nat) (xs:List Bp) (hx:xs.length≤9223372036854775807) (H:Hp): ∀ (n i:Nat) (e:Env),xs.length≤i+n→i+n≤xs.length+1→1≤i→(n=0∨i+n=xs.length)→e.get 0= .d (Bf xs)→e.get 3= .d (.int .i64 i)→
  ∃e',Bg (Bq (ev R) R.glob n0 Bg Bc8) [0,3] ⟨e,H⟩=some ((bif Fj (Lf xs) n i then .ret else .exit 0),⟨e',H⟩)∧
   (Fj (Lf xs) n i=true→e'.get 2= .d (.bool false))∧(Fj (Lf xs) n i=false→e'.get 0= .d (Bf xs))
 |0,i,e,h1,h2,h3,h4,g0,g3=>by
  have c: ¬ (i:Int)< (xs.length:Int):=by omega
  have c': ¬i<xs.length:=by omega
  rw[Co]
  simp only[Fj]
  refine⟨?_, ?_, ?_, ?_⟩
  rotate_left
  ·simp[Cu,-List.getD_eq_getElem?_getD,-List.map_map,Bc8,g0,g3,Bf,c,c']
   try rfl
  ·intro h;simp at h
  ·intro _;simp[Cu,-List.getD_eq_getElem?_getD,-List.map_map,g0,Bf]
 |n+1,i,e,h1,h2,h3,h4,g0,g3=>by
  have h4:i+(n+1)=xs.length:=by omega
  have c':i<xs.length:=by omega
  have ih:=B1l n0 xs hx H n (i+1)
  have ga:=Dv xs i c'
  have gb:=Dv xs (i - 1) (by omega)
  have hp:Lf xs i= !Op.bytesLess (xs.getD (i - 1) []) (xs.getD i []):=rfl
  obtain⟨I,hI⟩: ∃I:Int,(i:Int)=I:=⟨_,rfl⟩
  obtain⟨I2,hI2⟩: ∃I:Int,((i+1:Nat):Int)=I:=⟨_,rfl⟩
  obtain⟨J,hJ⟩: ∃I:Int,((i - 1:Nat):Int)=I:=⟨_,rfl⟩
  have w0:IntKind.i64.wrap (I - 1)=J:=by rw[IntWalk.i64_in _ (by omega)];omega
  have w1:IntKind.i64.wrap (I+1)=I2:=by rw[IntWalk.i64_in _ (by omega)];omega
  have c:I< (xs.length:Int):=by omega
  have cj:J< (xs.length:Int):=by omega
  have p0:0≤I:=by omega
  have pj:0≤J:=by omega
  have t0:I.toNat=i:=by omega
  have tj:J.toNat=i - 1:=by omega
  have hk:xs.length≤i+1+n:=by omega
  have hk2:i+1+n≤xs.length+1:=by omega
  have hk3:n=0∨i+1+n=xs.length:=by omega
  rw[hI] at g3
  rw[hI2] at ih
  simp only[Fj]
  generalize Lf xs i=b at*
  generalize Fj (Lf xs) n (i+1)=S at*
  generalize xs.getD i []=x at*
  generalize xs.getD (i - 1) []=y at*
  rw[Co]
  generalize Bg (Bq (ev R) R.glob n0 Bg Bc8) [0,3]=F at ih⊢
  cases hl:Op.bytesLess y x with
  |false=>
   rw[hl] at hp
   subst hp
   simp only[Bool.not_false,Bool.true_or,cond_true]
   refine⟨?_, ?_, ?_, ?_⟩
   rotate_left
   ·simp[Cu,-List.getD_eq_getElem?_getD,-List.map_map,Bc8,g0,g3,Bf,c,cj,p0,pj,t0,tj,w0,ga,gb,hl]
    try rfl
   ·intro _;simp[Cu,-List.getD_eq_getElem?_getD,-List.map_map]
   ·intro h;simp at h
  |true=>
   rw[hl] at hp
   subst hp
   simp only[Bool.not_true,Bool.false_or]
   simp[Cu,-List.getD_eq_getElem?_getD,-List.map_map,Bc8,g0,g3,Bf,c,cj,p0,pj,t0,tj,w0,w1,ga,gb,hl]
   refine ih _ hk hk2 (by omega) hk3 ?_ ?_<;>rfl
theorem Bf3 (H:Hp) (xs:List Bp) (hx:xs.length≤9223372036854775807):ev R 57 [.d (Bf xs)] H=some (.d (.bool (Gi xs)),H):=by
 refine Bh (fn:=f57) rfl rfl ?_
 have p:=Bb (cl:=ev R) fun H=>Bej H xs hx
 obtain⟨e',he,h1,h2⟩:=B1l (Bc H) xs hx H (xs.length - 1) 1 [(0, .d (Bf xs)),(3, .d (.int .i64 1))] (by omega) (by omega) (by omega) (by omega) rfl rfl
 unfold Gi
 cases hb:Fj (Lf xs) (xs.length - 1) 1 with
 |true=>
  have h1:=h1 hb
  simp only[hb,cond_true] at he
  simp[Cu,-List.getD_eq_getElem?_getD,-List.map_map,f57,he,h1]
 |false=>
  have h2:=h2 hb
  simp only[hb,cond_false] at he
  simp[Cu,-List.getD_eq_getElem?_getD,-List.map_map,f57,he,h2,p]
theorem B1o (n0:Nat) (xs:List Bp) (hx:xs.length≤9223372036854775807) (H:Hp): ∀ (n i:Nat) (e:Env),xs.length≤i+n→i+n≤xs.length+1→1≤i→(n=0∨i+n=xs.length)→e.get 0= .d (Bf xs)→e.get 3= .d (.int .i64 i)→
  ∃e',Bg (Bq (ev R) R.glob n0 Bg Bda) [0,3] ⟨e,H⟩=some ((bif Fj (Lf xs) n i then .ret else .exit 0),⟨e',H⟩)∧
   (Fj (Lf xs) n i=true→e'.get 2= .d (.bool false))∧(Fj (Lf xs) n i=false→e'.get 0= .d (Bf xs))
 |0,i,e,h1,h2,h3,h4,g0,g3=>by
  have c: ¬ (i:Int)< (xs.length:Int):=by omega
  have c': ¬i<xs.length:=by omega
  rw[Co]
  simp only[Fj]
  refine⟨?_, ?_, ?_, ?_⟩
  rotate_left
  ·simp[Cu,-List.getD_eq_getElem?_getD,-List.map_map,Bda,g0,g3,Bf,c,c']
   try rfl
  ·intro h;simp at h
  ·intro _;simp[Cu,-List.getD_eq_getElem?_getD,-List.map_map,g0,Bf]
 |n+1,i,e,h1,h2,h3,h4,g0,g3=>by
  have h4:i+(n+1)=xs.length:=by omega
  have c':i<xs.length:=by omega
  have ih:=B1o n0 xs hx H n (i+1)
  have ga:=Dv xs i c'
  have gb:=Dv xs (i - 1) (by omega)
  have hp:Lf xs i= !Op.bytesLess (xs.getD (i - 1) []) (xs.getD i []):=rfl
  obtain⟨I,hI⟩: ∃I:Int,(i:Int)=I:=⟨_,rfl⟩
  obtain⟨I2,hI2⟩: ∃I:Int,((i+1:Nat):Int)=I:=⟨_,rfl⟩
  obtain⟨J,hJ⟩: ∃I:Int,((i - 1:Nat):Int)=I:=⟨_,rfl⟩
  have w0:IntKind.i64.wrap (I - 1)=J:=by rw[IntWalk.i64_in _ (by omega)];omega
  have w1:IntKind.i64.wrap (I+1)=I2:=by rw[IntWalk.i64_in _ (by omega)];omega
  have c:I< (xs.length:Int):=by omega
  have cj:J< (xs.length:Int):=by omega
  have p0:0≤I:=by omega
  have pj:0≤J:=by omega
  have t0:I.toNat=i:=by omega
  have tj:J.toNat=i - 1:=by omega
  have hk:xs.length≤i+1+n:=by omega
  have hk2:i+1+n≤xs.length+1:=by omega
  have hk3:n=0∨i+1+n=xs.length:=by omega
  rw[hI] at g3
  rw[hI2] at ih
  simp only[Fj]
  generalize Lf xs i=b at*
  generalize Fj (Lf xs) n (i+1)=S at*
  generalize xs.getD i []=x at*
  generalize xs.getD (i - 1) []=y at*
  rw[Co]
  generalize Bg (Bq (ev R) R.glob n0 Bg Bda) [0,3]=F at ih⊢
  cases hl:Op.bytesLess y x with
  |false=>
   rw[hl] at hp
   subst hp
   simp only[Bool.not_false,Bool.true_or,cond_true]
   refine⟨?_, ?_, ?_, ?_⟩
   rotate_left
   ·simp[Cu,-List.getD_eq_getElem?_getD,-List.map_map,Bda,g0,g3,Bf,c,cj,p0,pj,t0,tj,w0,ga,gb,hl]
    try rfl
   ·intro _;simp[Cu,-List.getD_eq_getElem?_getD,-List.map_map]
   ·intro h;simp at h
  |true=>
   rw[hl] at hp
   subst hp
   simp only[Bool.not_true,Bool.false_or]
   simp[Cu,-List.getD_eq_getElem?_getD,-List.map_map,Bda,g0,g3,Bf,c,cj,p0,pj,t0,tj,w0,w1,ga,gb,hl]
   refine ih _ hk hk2 (by omega) hk3 ?_ ?_<;>rfl
theorem Bjf (H:Hp) (xs:List Bp) (hx:xs.length≤9223372036854775807):ev R 66 [.d (Bf xs)] H=some (.d (.bool (Gi xs)),H):=by
 refine Bh (fn:=f66) rfl rfl ?_
 have p:=Bb (cl:=ev R) fun H=>Bf6 H xs hx
 obtain⟨e',he,h1,h2⟩:=B1o (Bc H) xs hx H (xs.length - 1) 1 [(0, .d (Bf xs)),(3, .d (.int .i64 1))] (by omega) (by omega) (by omega) (by omega) rfl rfl
 unfold Gi
 cases hb:Fj (Lf xs) (xs.length - 1) 1 with
 |true=>
  have h1:=h1 hb
  simp only[hb,cond_true] at he
  simp[Cu,-List.getD_eq_getElem?_getD,-List.map_map,f66,he,h1]
 |false=>
  have h2:=h2 hb
  simp only[hb,cond_false] at he
  simp[Cu,-List.getD_eq_getElem?_getD,-List.map_map,f66,he,h2,p]
theorem Bqv (H:Hp) (xs:List Bp) (hx:xs.length≤1000000):ev R 85 [.d (Bf xs)] H=some (.slc (Bc H) 0 0 xs.length,ap H [.row 0 1 ((xs.map D.str).map V.d)]):=by
 refine Bh (fn:=f85) rfl rfl ?_
 have r:xs.length*16≤Cv:=by unfold Cv;omega
 simp[Cn,-List.getD_eq_getElem?_getD,-List.map_map,f85,Bf,r,Ug]
theorem Bct (xs:List Bp) (hx:xs.length≤1000000):Gg (ev R) 85 [.d (Bf xs)]=some (.d (Bf xs)):=by
 refine Jm fun H=> ⟨_,_,Bqv H xs hx, ?_,Mh H _⟩
 simp[Cn,-List.getD_eq_getElem?_getD,-List.map_map,Bf]
theorem Uj (xs:List Bp) (hx:xs.length≤1000000):Be (ev R) 85 [.d (Bf xs)]=none:=by
 cases h:Be (ev R) 85 [.d (Bf xs)] with
 |none=>rfl
 |some v=>
  have h1:=D8 h []
  rw[Bqv [] xs hx] at h1
  simp[ap] at h1
theorem Bu (s:Bp):Be (ev R) 108 [.d (.str s)]=some (.d (Z4 (.mk 1 0 s [] []))):=Bb fun H=>by
 refine Bh (fn:=f108) rfl rfl ?_
 simp[Cn,-List.getD_eq_getElem?_getD,-List.map_map,f108,Bf]
theorem Jl (n:Int):Be (ev R) 131 [.d (.int .i64 n)]=some (.d (Z4 (.mk 2 n [] [] []))):=Bb fun H=>by
 refine Bh (fn:=f131) rfl rfl ?_
 simp[Cn,-List.getD_eq_getElem?_getD,-List.map_map,f131,Bf]
theorem Bdn (s:Bp):Be (ev R) 130 [.d (.str s)]=some (.d (Z4 (.mk 3 0 s [] []))):=Bb fun H=>by
 refine Bh (fn:=f130) rfl rfl ?_
 simp[Cn,-List.getD_eq_getElem?_getD,-List.map_map,f130,Bf]
theorem Gj:Be (ev R) 129 []=some (.d (Z4 (.mk 4 0 [] [] []))):=Bb fun H=>by
 refine Bh (fn:=f129) rfl rfl ?_
 simp[Cn,-List.getD_eq_getElem?_getD,-List.map_map,f129,Bf]
theorem Xb (xs:List Bp):Be (ev R) 141 [.d (Bf xs)]=some (.d (Z4 (.mk 5 0 [] xs []))):=Bb fun H=>by
 refine Bh (fn:=f141) rfl rfl ?_
 simp[Cn,-List.getD_eq_getElem?_getD,-List.map_map,f141,Bf]
def Jb (b:Bool):Re:= .mk 2 (if b then 1 else 0) [] [] []
theorem Bdo (b:Bool):Be (ev R) 144 [.d (.bool b)]=some (.d (Z4 (Jb b))):=Bb fun H=>by
 refine Bh (fn:=f144) rfl rfl ?_
 have a:=Jl 1
 have c:=Jl 0
 cases b<;>simp[Cn,-List.getD_eq_getElem?_getD,-List.map_map,f144,a,c,Jb]
theorem Bdp (n:Int):Be (ev R) 163 [.d (.int .i64 n)]=some (.d (.bool (decide (-1000000000≤n) &&decide (n≤1000000000)))):=Bb fun H=>by
 refine Bh (fn:=f163) rfl rfl ?_
 have p:=Bb (cl:=ev R) fun H=>B02 H n (-1000000000) 1000000000
 simp[Cn,-List.getD_eq_getElem?_getD,-List.map_map,f163,p]
def Kb (n f t:Int):Int×Int:=
 let f:=if f<0 then f+n else f
 let t:=if t<0 then t+n else t
 let f:=if f<0 then 0 else f
 let t:=if n≤t then n - 1 else t
 if t<f then(0,0) else(f,t+1)
theorem Brs (n f t:Int) (hn:0≤n∧n≤1000000) (hf: -1000000000≤f∧f≤1000000000) (ht: -1000000000≤t∧t≤1000000000):
  Be (ev R) 134 [.d (.int .i64 n), .d (.int .i64 f), .d (.int .i64 t)]=some (.tup [.d (.int .i64 (Kb n f t).1), .d (.int .i64 (Kb n f t).2)]):=Bb fun H=>by
 refine Bh (fn:=f134) rfl rfl ?_
 have w1:IntKind.i64.wrap (f+n)=f+n:=IntWalk.i64_in _ (by omega)
 have w2:IntKind.i64.wrap (t+n)=t+n:=IntWalk.i64_in _ (by omega)
 have w3:IntKind.i64.wrap (n - 1)=n - 1:=IntWalk.i64_in _ (by omega)
 have w4:IntKind.i64.wrap (t+1)=t+1:=IntWalk.i64_in _ (by omega)
 have w5:IntKind.i64.wrap (t+n+1)=t+n+1:=IntWalk.i64_in _ (by omega)
 have w6:IntKind.i64.wrap n=n:=IntWalk.i64_in _ (by omega)
 unfold Kb
 by_cases a:f<0<;>by_cases b:t<0
 ·by_cases c:f+n<0<;>by_cases d:n≤t+n
  ·by_cases k:n - 1<0<;>first| (exfalso;omega) | (simp[Cn,-List.getD_eq_getElem?_getD,-List.map_map,f134,a,b,c,d,k,w1,w2,w3,w4,w5,w6])
  ·by_cases k:t+n<0<;>first| (exfalso;omega) | (simp[Cn,-List.getD_eq_getElem?_getD,-List.map_map,f134,a,b,c,d,k,w1,w2,w3,w4,w5,w6])
  ·by_cases k:n - 1<f+n<;>first| (exfalso;omega) | (simp[Cn,-List.getD_eq_getElem?_getD,-List.map_map,f134,a,b,c,d,k,w1,w2,w3,w4,w5,w6])
  ·by_cases k:t+n<f+n<;>first| (exfalso;omega) | (simp[Cn,-List.getD_eq_getElem?_getD,-List.map_map,f134,a,b,c,d,k,w1,w2,w3,w4,w5,w6])
 ·by_cases c:f+n<0<;>by_cases d:n≤t
  ·by_cases k:n - 1<0<;>first| (exfalso;omega) | (simp[Cn,-List.getD_eq_getElem?_getD,-List.map_map,f134,a,b,c,d,k,w1,w2,w3,w4,w5,w6])
  ·by_cases k:t<0<;>first| (exfalso;omega) | (simp[Cn,-List.getD_eq_getElem?_getD,-List.map_map,f134,a,b,c,d,k,w1,w2,w3,w4,w5,w6])
  ·by_cases k:n - 1<f+n<;>first| (exfalso;omega) | (simp[Cn,-List.getD_eq_getElem?_getD,-List.map_map,f134,a,b,c,d,k,w1,w2,w3,w4,w5,w6])
  ·by_cases k:t<f+n<;>first| (exfalso;omega) | (simp[Cn,-List.getD_eq_getElem?_getD,-List.map_map,f134,a,b,c,d,k,w1,w2,w3,w4,w5,w6])
 ·by_cases c:f<0<;>by_cases d:n≤t+n
  ·by_cases k:n - 1<0<;>first| (exfalso;omega) | (simp[Cn,-List.getD_eq_getElem?_getD,-List.map_map,f134,a,b,c,d,k,w1,w2,w3,w4,w5,w6])
  ·by_cases k:t+n<0<;>first| (exfalso;omega) | (simp[Cn,-List.getD_eq_getElem?_getD,-List.map_map,f134,a,b,c,d,k,w1,w2,w3,w4,w5,w6])
  ·by_cases k:n - 1<f<;>first| (exfalso;omega) | (simp[Cn,-List.getD_eq_getElem?_getD,-List.map_map,f134,a,b,c,d,k,w1,w2,w3,w4,w5,w6])
  ·by_cases k:t+n<f<;>first| (exfalso;omega) | (simp[Cn,-List.getD_eq_getElem?_getD,-List.map_map,f134,a,b,c,d,k,w1,w2,w3,w4,w5,w6])
 ·by_cases c:f<0<;>by_cases d:n≤t
  ·by_cases k:n - 1<0<;>first| (exfalso;omega) | (simp[Cn,-List.getD_eq_getElem?_getD,-List.map_map,f134,a,b,c,d,k,w1,w2,w3,w4,w5,w6])
  ·by_cases k:t<0<;>first| (exfalso;omega) | (simp[Cn,-List.getD_eq_getElem?_getD,-List.map_map,f134,a,b,c,d,k,w1,w2,w3,w4,w5,w6])
  ·by_cases k:n - 1<f<;>first| (exfalso;omega) | (simp[Cn,-List.getD_eq_getElem?_getD,-List.map_map,f134,a,b,c,d,k,w1,w2,w3,w4,w5,w6])
  ·by_cases k:t<f<;>first| (exfalso;omega) | (simp[Cn,-List.getD_eq_getElem?_getD,-List.map_map,f134,a,b,c,d,k,w1,w2,w3,w4,w5,w6])
end Go.Proofs.YtjdmiodinhlchaaGreat.Code
namespace Go.Proofs.YtjdmiodinhlchaaGreat.Code
open Go Go.Ev
inductive Res (α:Type) where
 |ok (a:α) (r:Bp)
 |short
 |bad
def Res.bind {α β:Type} (x:Res α) (f:α→Bp→Res β):Res β:=
 match x with
 | .ok a r=>f a r
 | .short=> .short
 | .bad=> .bad
def Bmo (b:UInt8):Bp→Res Unit
 | []=> .short
 |c::r=>if c=b then .ok () r else .bad
def Bba (c:UInt8):Bool:=decide (48≤c.toNat) &&decide (c.toNat≤57)
def By4 (n:Int) (c:UInt8):Int:=10*n+((c.toNat:Int) - 48)
def Bod (low high:Int):Bp→Int→Bool→Res Int
 | [],_,_=> .short
 |c::r,n,first=>
  if Bba c=true then
   if first=false∧n=0 then .bad
   else if low≤By4 n c∧By4 n c≤high then Bod low high r (By4 n c) false else .bad
  else if first=true then .bad
  else if c=13 then(Bmo 10 r).bind fun _ r'=> .ok n r' else .bad
def B3i (mark:UInt8) (low high:Int) (t:Bp):Res Int:=(Bmo mark t).bind fun _ r=>Bod low high r 0 true
def B3j (n:Nat) (t:Bp):Res Bp:=if t.length<n then .short else .ok (t.take n) (t.drop n)
def B7u {α:Type} (x:α) (t:Bp):Res α:=(Bmo 13 t).bind fun _ r=> (Bmo 10 r).bind fun _ r'=> .ok x r'
def B3h (t:Bp):Res Bp:=(B3i 36 0 40 t).bind fun n r=> (B3j n.toNat r).bind fun x r'=>B7u x r'
def Brn:Nat→Bp→Res (List Bp)
 |0,t=> .ok [] t
 |n+1,t=> (B3h t).bind fun x r=> (Brn n r).bind fun xs r'=> .ok (x::xs) r'
def Bzl (t:Bp):Res (List Bp):=(B3i 42 1 8 t).bind fun n r=>Brn n.toNat r
structure Good {α:Type} (P:Bp→Res α):Prop where
 ok: ∀t x r,P t= .ok x r→∃u,t=u++r∧∀r',P (u++r')= .ok x r'
 bad: ∀t t',P t= .bad→P (t++t')= .bad
theorem Good.bind {α β:Type} {P:Bp→Res α} {Q:α→Bp→Res β} (h:Good P) (k: ∀x,Good (Q x)):Good fun t=> (P t).bind Q:=by
 constructor
 ·intro t x r e0
  have e: (P t).bind Q= .ok x r:=e0
  clear e0
  cases hp:P t with
  |short=>rw[hp] at e;simp[Res.bind] at e
  |bad=>rw[hp] at e;simp[Res.bind] at e
  |ok y r1=>
   rw[hp] at e
   simp only[Res.bind] at e
   obtain⟨u1,rfl,h1⟩:=h.ok t y r1 hp
   obtain⟨u2,rfl,h2⟩:=(k y).ok r1 x r e
   refine⟨u1++u2,by rw[List.append_assoc],fun r'=> ?_⟩
   simp only[List.append_assoc,h1,Res.bind,h2]
 ·intro t t' e0
  have e: (P t).bind Q= .bad:=e0
  clear e0
  show(P (t++t')).bind Q= .bad
  cases hp:P t with
  |short=>rw[hp] at e;simp[Res.bind] at e
  |bad=>rw[h.bad t t' hp];rfl
  |ok y r1=>
   rw[hp] at e
   simp only[Res.bind] at e
   obtain⟨u1,rfl,h1⟩:=h.ok t y r1 hp
   rw[List.append_assoc,h1]
   exact(k y).bad r1 t' e
theorem Good.pure {α:Type} (x:α):Good fun t=>Res.ok x t:=
 ⟨fun t y r e=> (by cases e;exact⟨[],rfl,fun _=>rfl⟩),fun t t' e=> (by cases e)⟩
def Uc (t:Bp):List Bp:=
 match Bzl t with
 | .ok x _=>x
 | .short=> []
 | .bad=> []
def Zl:Bp→Nat→Int→Option Int
 | [],_,n=>some n
 |c::r,i,n=>if Bba c=true then Zl r (i+1) (if i<10 then n*10+((c.toNat:Int) - 48) else n) else none
def Zm (s:Bp):Int:=
 match Zl s 0 0 with
 |none=> -1
 |some n=>if s.length<1∨10<s.length∨(1<s.length∧s.getD 0 0=48) then -1 else n
theorem By5 {c:UInt8} (h:Bba c=true):48≤c.toNat∧c.toNat≤57:=by
 simpa[Bba] using h
def Bml (xs:List Bp):Prop:=(∀x∈xs,x.length≤40)∧1≤xs.length∧xs.length≤8
end Go.Proofs.YtjdmiodinhlchaaGreat.Code
namespace Go.Proofs.YtjdmiodinhlchaaGreat.Code
open Go Go.Ev Go.Proofs
theorem B4f (a b:UInt8): ((a.toNat:Int)=(b.toNat:Int))↔a=b:=by
 constructor
 ·intro h;exact UInt8.toNat_inj.1 (by omega)
 ·rintro rfl;rfl
structure Stop (low high:Int) (s:Bp) (k n0:Nat) (n:Int) (k1:Nat) (n1:Int) (sh bd:Bool):Prop where
 le:k1≤s.length
 ge:n0≤k1
 say: (sh=false∧bd=false∧(∃c t,s.drop k1=c::t∧Bba c=false)∧Bod low high (s.drop k) n (decide (k=n0))=Bod low high (s.drop k1) n1 (decide (k1=n0)))∨(sh=true∧bd=false∧Bod low high (s.drop k) n (decide (k=n0))= .short)∨(sh=false∧bd=true∧Bod low high (s.drop k) n (decide (k=n0))= .bad)
theorem Bnq {s:Bp} {k:Nat} (hk:k<s.length):s.drop k=s.getD k 0::s.drop (k+1):=by
 rw[List.getD_eq_getElem?_getD,List.getElem?_eq_getElem hk]
 exact List.drop_eq_getElem_cons hk
def K5 (z:Int):Bp:=if z<0 then 45::Qf z.natAbs else Qf z.toNat
theorem B09 (H:Hp) (z:Int) (h: -1000000000≤z∧z≤1000000000):ev R 83 [.d (.int .i64 z)] H=some (.d (.str (K5 z)),H):=by
 unfold K5
 by_cases c:z<0
 ·rw[if_pos c]
  refine Bh (fn:=f83) rfl rfl ?_
  obtain⟨n,hn⟩: ∃n:Nat,z.natAbs=n:=⟨_,rfl⟩
  have hz: -z=(n:Int):=by omega
  have c1: ¬z< -9223372036854775807:=by omega
  have w:IntKind.i64.wrap (-z)=(n:Int):=by rw[IntWalk.i64_in _ (by omega)];exact hz
  have p:=Bb (cl:=ev R) fun H=>B08 n H (by omega)
  have dl:=Bfz n
  have l:1+(Qf n).length≤Gr:=by unfold Gr;omega
  rw[hn]
  generalize Qf n=x at*
  generalize(n:Int)=N at*
  simp[Cu,-List.getD_eq_getElem?_getD,-List.map_map,f83,c,c1,w,p,l]
 ·rw[if_neg c]
  obtain⟨n,rfl⟩:=Int.eq_ofNat_of_zero_le (show 0≤z by omega)
  exact B08 n H (by omega)
end Go.Proofs.YtjdmiodinhlchaaGreat.Code
