/- Lemmas (several texts in one). -/
import Derived.Test.YtjdmiodinhlchaaGreatMBaseDrop4
import Derived.Test.YtjdmiodinhlchaaGreatMBaseDrop5
import Derived.Test.YtjdmiodinhlchaaGreatMBaseDrop6
import Derived.Test.YtjdmiodinhlchaaGreatMBaseDrop7
import Derived.Test.YtjdmiodinhlchaaGreatMBaseDrop8
set_option maxRecDepth 100000
set_option linter.unusedSimpArgs false
set_option linter.unusedVariables false
namespace Go.Proofs.YtjdmiodinhlchaaGreat.Code
open Go Go.Ev Go.Proofs
abbrev Mt (bs:List Int):D:= .vals 1 (bs.map (.int .u8))
def rd (bs:List Int) (p:Int):Ev.Obj:= .row 0 2 [.d (.agg [Mt bs, .int .i64 p])]
theorem Sm {H:Hp} {r:Nat} {bs:List Int} {p:Int} (h:B6 H r=some (rd bs p)):Cm H r 0=some (2,[.d (.agg [Mt bs, .int .i64 p])]):=by
 simp[Cm,h,rd]
theorem Bmm {H:Hp} {r:Nat} {bs:List Int} {p:Int} (h:B6 H r=some (rd bs p)):C3 H r 0 0 0 1=some [.d (Mt bs)]:=by
 simp[C3,Sm h,V.cells]
theorem Bco {H:Hp} {r:Nat} {bs:List Int} {p:Int} (h:B6 H r=some (rd bs p)):C3 H r 0 0 1 1=some [.d (.int .i64 p)]:=by
 simp[C3,Sm h,V.cells]
theorem Bmn {H:Hp} {r:Nat} {bs:List Int} {p q:Int} (h:B6 H r=some (rd bs p)):Km H r 0 0 1 [.d (.int .i64 q)]=some (Bu H r (rd bs q)):=by
 simp[Km,Sm h,V.cells,Jt,V.isAgg,Kt,Fi,rd]
theorem Jk {H:Hp} {r:Nat} {o:Ev.Obj} :Ck (Bu H r o) (Bc H)=Bu H r o:=by
 have:=Gp (Bu H r o)
 rwa[Bq] at this
def Cz (bs:List Int):Prop:=bs.length≤2000∧∀i,0≤bs.getD i 0∧bs.getD i 0≤255
theorem R2 (bs:List Int) (i:Nat) (hi:i<bs.length): (bs.map (D.int .u8)).getD i .nilp= .int .u8 (bs.getD i 0):=by
 simp[List.getD_eq_getElem?_getD,hi]
theorem Bo4 (x y:Int) (hx:0≤x) (hx2:x<9223372036854775808) (hy:0≤y) (hy2:y<9223372036854775808): ∃z,Qd .xor .i64 x y=some z∧0≤z:=by
 obtain⟨a,rfl⟩:=Int.eq_ofNat_of_zero_le hx
 obtain⟨b,rfl⟩:=Int.eq_ofNat_of_zero_le hy
 have ha:a<2 ^ 63:=by omega
 have hb:b<2 ^ 63:=by omega
 have hlt:a ^^^ b<2 ^ 63:=Nat.xor_lt_two_pow ha hb
 have e: ((BitVec.ofInt 64 (a:Int) ^^^ BitVec.ofInt 64 (b:Int)).toNat:Int)=((a ^^^ b:Nat):Int):=by
  rw[BitVec.ofInt_natCast,BitVec.ofInt_natCast,BitVec.toNat_xor,BitVec.toNat_ofNat,BitVec.toNat_ofNat,Nat.mod_eq_of_lt (by omega),Nat.mod_eq_of_lt (by omega)]
 refine⟨((a ^^^ b:Nat):Int), ?_,by omega⟩
 show some (IntKind.i64.wrap ((BitVec.ofInt 64 (a:Int) ^^^ BitVec.ofInt 64 (b:Int)).toNat:Int))=_
 rw[e,IntWalk.i64_in _ (by omega)]
def Tl (bs:List Int) (p:Int):Int:=
 bs.getD (p.tmod bs.length).toNat 0*131+bs.getD ((p*7+3).tmod bs.length).toNat 0*1117+p*29+p.tdiv bs.length*53
def Cr (bs:List Int) (p n:Int):Int:=
 if n<1 then 0 else if bs.length=0 then 0 else if p<bs.length then(bs.getD p.toNat 0).tmod n else((Qd .xor .i64 (Tl bs p) ((Tl bs p).tdiv 64)).getD 0).tmod n
theorem Ble (H:Hp) (r:Nat) (bs:List Int) (p n:Int) (h:B6 H r=some (rd bs p)) (hb:Cz bs) (hp:0≤p) (hp2:p≤1000000000000):ev R 54 [.ptr r 0 0 0, .d (.int .i64 n)] H=some (.d (.int .i64 (Cr bs p n)),Bu H r (rd bs (p+1))):=by
 refine Bi (fn:=f54) rfl rfl ?_
 have w1:IntKind.i64.wrap (p+1)=p+1:=IntWalk.i64_in _ (by omega)
 have w2:IntKind.i64.wrap p=p:=IntWalk.i64_in _ (by omega)
 have hl:=Dj h
 have h1:B6 (Bu H r (rd bs (p+1))) r=some (rd bs (p+1)):=Cd _ hl
 have a0:=Bmm h1
 have a1:=Bco h1
 have b1:=Bco h
 have st:=Bmn (q:=p+1) h
 unfold Cr
 by_cases hn:n<1
 ·simp[B9,-List.getD_eq_getElem?_getD,-List.map_map,f54,w1,w2,a0,a1,b1,st,hn,Jk]
 ·by_cases hz:bs.length=0
  ·have hz':bs=[]:=List.eq_nil_of_length_eq_zero hz
   subst hz'
   simp[B9,-List.getD_eq_getElem?_getD,-List.map_map,f54,w1,w2,a0,a1,b1,st,hn,Jk]
  ·have hz': ¬bs=[]:=fun e=>hz (by subst e;rfl)
   have n0: ¬n=0:=by omega
   by_cases hlt:p< (bs.length:Int)
   ·have g:=R2 bs p.toNat (by omega)
    have bb:=hb.2 p.toNat
    have w3:IntKind.i64.wrap (bs.getD p.toNat 0)=bs.getD p.toNat 0:=IntWalk.i64_in _ (by omega)
    simp[B9,-List.getD_eq_getElem?_getD,-List.map_map,f54,w1,w2,w3,a0,a1,b1,st,hn,hz,hz',hp,hlt,g,n0,Jk]
   ·have L0: (0:Int)<bs.length:=by omega
    have lz: ¬ (bs.length:Int)=0:=by omega
    have i1:0≤p.tmod bs.length:=Int.tmod_nonneg _ hp
    have i2:p.tmod bs.length<bs.length:=Int.tmod_lt_of_pos _ L0
    have j1:0≤(p*7+3).tmod bs.length:=Int.tmod_nonneg _ (by omega)
    have j2: (p*7+3).tmod bs.length<bs.length:=Int.tmod_lt_of_pos _ L0
    have g1:=R2 bs (p.tmod bs.length).toNat (by omega)
    have g2:=R2 bs ((p*7+3).tmod bs.length).toNat (by omega)
    have c1:=hb.2 (p.tmod bs.length).toNat
    have c2:=hb.2 ((p*7+3).tmod bs.length).toNat
    have d0:0≤p.tdiv bs.length∧p.tdiv bs.length≤p:=by
     rw[Int.tdiv_eq_ediv_of_nonneg hp]
     exact⟨Int.ediv_nonneg hp (by omega),Int.ediv_le_self _ hp⟩
    obtain⟨X,hX⟩: ∃X,X=Tl bs p:=⟨_,rfl⟩
    have hXe:=hX
    unfold Tl at hXe
    rw[←hX]
    generalize bs.getD (p.tmod bs.length).toNat 0=x1 at g1 c1 hXe⊢
    generalize bs.getD ((p*7+3).tmod bs.length).toNat 0=x2 at g2 c2 hXe⊢
    generalize hq:p.tdiv bs.length=q at d0 hXe⊢
    have xb:0≤X∧X<9223372036854775807:=by omega
    have t0:0≤X.tdiv 64∧X.tdiv 64≤X:=by
     rw[Int.tdiv_eq_ediv_of_nonneg xb.1]
     omega
    obtain⟨z,hz1,hz2⟩:=Bo4 X (X.tdiv 64) xb.1 (by omega) t0.1 (by omega)
    have v1:IntKind.i64.wrap x1=x1:=IntWalk.i64_in _ (by omega)
    have v2:IntKind.i64.wrap (x1*131)=x1*131:=IntWalk.i64_in _ (by omega)
    have v3:IntKind.i64.wrap (p*7)=p*7:=IntWalk.i64_in _ (by omega)
    have v4:IntKind.i64.wrap (p*7+3)=p*7+3:=IntWalk.i64_in _ (by omega)
    have v5:IntKind.i64.wrap x2=x2:=IntWalk.i64_in _ (by omega)
    have v6:IntKind.i64.wrap (x2*1117)=x2*1117:=IntWalk.i64_in _ (by omega)
    have v7:IntKind.i64.wrap (x1*131+x2*1117)=x1*131+x2*1117:=IntWalk.i64_in _ (by omega)
    have v8:IntKind.i64.wrap (p*29)=p*29:=IntWalk.i64_in _ (by omega)
    have v9:IntKind.i64.wrap (x1*131+x2*1117+p*29)=x1*131+x2*1117+p*29:=IntWalk.i64_in _ (by omega)
    have v10:IntKind.i64.wrap q=q:=IntWalk.i64_in _ (by omega)
    have v11:IntKind.i64.wrap (q*53)=q*53:=IntWalk.i64_in _ (by omega)
    have v12:IntKind.i64.wrap (x1*131+x2*1117+p*29+q*53)=X:=by rw[hXe];exact IntWalk.i64_in _ (by omega)
    have v13:IntKind.i64.wrap (X.tdiv 64)=X.tdiv 64:=IntWalk.i64_in _ (by omega)
    simp[B9,-List.getD_eq_getElem?_getD,-List.map_map,f54,w1,w2,a0,a1,b1,st,hn,hz,hz',hlt,n0,lz,Jk,i1,i2,j1,j2,g1,g2,hq,v1,v2,v3,v4,v5,v6,v7,v8,v9,v10,v11,v12,v13,hz1]
theorem Gg (bs:List Int) (p n:Int) (hb:Cz bs) (hp:0≤p) (hp2:p≤1000000000000):0≤Cr bs p n∧(1≤n→Cr bs p n<n):=by
 unfold Cr
 split
 ·omega
 ·split
  ·omega
  ·split
   ·have:=hb.2 p.toNat
    exact⟨Int.tmod_nonneg _ this.1,fun h=>Int.tmod_lt_of_pos _ (by omega)⟩
   ·rename_i h1 h2 h3
    have c1:=hb.2 (p.tmod bs.length).toNat
    have c2:=hb.2 ((p*7+3).tmod bs.length).toNat
    have d0:0≤p.tdiv bs.length∧p.tdiv bs.length≤p:=by
     rw[Int.tdiv_eq_ediv_of_nonneg hp]
     exact⟨Int.ediv_nonneg hp (by omega),Int.ediv_le_self _ hp⟩
    have xb:0≤Tl bs p∧Tl bs p<9223372036854775807:=by
     unfold Tl
     omega
    have t0:0≤(Tl bs p).tdiv 64∧(Tl bs p).tdiv 64≤Tl bs p:=by
     rw[Int.tdiv_eq_ediv_of_nonneg xb.1]
     omega
    obtain⟨z,hz1,hz2⟩:=Bo4 (Tl bs p) ((Tl bs p).tdiv 64) xb.1 (by omega) t0.1 (by omega)
    rw[hz1]
    exact⟨Int.tmod_nonneg _ hz2,fun h=>Int.tmod_lt_of_pos _ (by omega)⟩
def ofV (bs:List Int) (p:Int) (xs:List Bm):Bm:=xs.getD (Cr bs p xs.length).toNat []
theorem Bs6 (H:Hp) (r:Nat) (bs:List Int) (p:Int) (xs:List Bm) (h:B6 H r=some (rd bs p)) (hb:Cz bs) (hp:0≤p) (hp2:p≤1000000000000) (hx:0<xs.length):ev R 29 [.ptr r 0 0 0, .d (Bf xs)] H=some (.d (.str (ofV bs p xs)),Bu H r (rd bs (p+1))):=by
 refine Bi (fn:=f29) rfl rfl ?_
 have q:=Ble H r bs p xs.length h hb hp hp2
 obtain⟨k0,k1⟩:=Gg bs p xs.length hb hp hp2
 have k1:=k1 (by omega)
 have g:=Cw xs (Cr bs p xs.length).toNat (by omega)
 simp[B9,-List.getD_eq_getElem?_getD,-List.map_map,f29,Bf,q,k0,k1,g,Jk,ofV]
def Wg (s:Bm) (n:Nat) (out:Bm):Bm:=
 if h:n=0 then out else Wg (s++s) (n / 2) (if n % 2=1 then out++s else out)
termination_by n
decreasing_by omega
theorem Bva (n0:Nat) (H:Hp): ∀ (n:Nat) (s out:Bm) (e:Env),n≤1000→out.length+s.length*n≤1000000→s.length≤2000000→e.get 0= .d (.str s)→e.get 1= .d (.int .i64 n)→e.get 5= .d (.str out)→
  ∃e',Bg (Bo (ev R) R.glob n0 Bg R9) [0,1,5] ⟨e,H⟩=some (.exit 0,⟨e',H⟩)∧e'.get 5= .d (.str (Wg s n out)):=by
 intro n
 induction n using Nat.strongRecOn with
 |_ n ih=>
  intro s out e hn hl hsl h0 h1 h5
  by_cases hz:n=0
  ·subst hz
   rw[Bz]
   refine⟨?_, ?_, ?_⟩
   rotate_left
   ·simp[B9,-List.getD_eq_getElem?_getD,-List.map_map,R9,h0,h1,h5]
    rfl
   ·rw[Wg]
    simp[B9,-List.getD_eq_getElem?_getD,-List.map_map,h5]
  ·have c: (0:Int)< (n:Int):=by omega
   have c':0<n:=by omega
   have m2:IntKind.i64.wrap ((n:Int).tdiv 2)=((n / 2:Nat):Int):=by
    rw[Int.tdiv_eq_ediv_of_nonneg (by omega),IntWalk.i64_in _ (by omega)];omega
   have m3:IntKind.i64.wrap ((n:Int) / 2)=((n / 2:Nat):Int):=by
    rw[IntWalk.i64_in _ (by omega)];omega
   have hmul:s.length*(n / 2)*2≤s.length*n:=by
    rw[Nat.mul_assoc]
    exact Nat.mul_le_mul_left _ (by omega)
   have hmul1:s.length*1≤s.length*n:=Nat.mul_le_mul_left _ (by omega)
   have l2:s.length+s.length≤Gz:=by unfold Gz;omega
   have l3:out.length+s.length≤Gz:=by unfold Gz;omega
   have hd: (s++s).length*(n / 2)=s.length*(n / 2)*2:=by rw[List.length_append,Nat.add_mul];omega
   have hsq: (s++s).length≤2000000:=by rw[List.length_append];omega
   have hodd:s.length*n=s.length*(n / 2)*2+s.length*(n % 2):=by
    rw[Nat.mul_assoc,←Nat.mul_add]
    congr 1
    omega
   rw[Bz]
   have ih':=ih (n / 2) (by omega) (s++s) (if n % 2=1 then out++s else out)
   rw[Wg,dif_neg hz]
   generalize Wg (s++s) (n / 2) (if n % 2=1 then out++s else out)=M at ih'⊢
   generalize Bg (Bo (ev R) R.glob n0 Bg R9) [0,1,5]=F at ih'⊢
   by_cases odd:n % 2=1
   ·have m1: (n:Int).tmod 2=1:=by rw[Int.tmod_eq_emod_of_nonneg (by omega)];omega
    rw[odd] at hodd
    simp only[odd,if_true] at ih'
    simp[B9,-List.getD_eq_getElem?_getD,-List.map_map,R9,h0,h1,h5,c,c',m1,m2,m3,l2,l3]
    refine ih' _ (by omega) ?_ hsq ?_ ?_ ?_
    ·rw[hd,List.length_append];omega
    all_goals rfl
   ·have m1: (n:Int).tmod 2=0:=by rw[Int.tmod_eq_emod_of_nonneg (by omega)];omega
    simp only[odd,if_false] at ih'
    simp[B9,-List.getD_eq_getElem?_getD,-List.map_map,R9,h0,h1,h5,c,c',m1,m2,m3,l2,l3]
    refine ih' _ (by omega) ?_ hsq ?_ ?_ ?_
    ·rw[hd];omega
    all_goals rfl
theorem Bun (H:Hp) (s:Bm) (n:Nat) (hn:n≤1000) (hs:s.length≤1000):ev R 100 [.d (.str s), .d (.int .i64 n)] H=some (.d (.str (Wg s n [])),H):=by
 refine Bi (fn:=f100) rfl rfl ?_
 have hm:s.length*n≤1000*1000:=Nat.mul_le_mul hs hn
 obtain⟨e',he,h5⟩:=Bva (Bc H) H n s [] [(0, .d (.str s)),(1, .d (.int .i64 n)),(5, .d (.str []))] hn (by simp;omega) (by omega) rfl rfl rfl
 simp[B9,-List.getD_eq_getElem?_getD,-List.map_map,f100,he,h5]
def Mo:List Bm:=[[],[97],[98],[99],[53],[45,51],[104,101,108,108,111],[13,10],[255],Wg [120] 40 [],[57,57,57,57,57,57,57,57,57]]
def P9 (bs:List Int) (p:Int):Bm:=ofV bs p Mo
theorem Bu2 (H:Hp) (r:Nat) (bs:List Int) (p:Int) (h:B6 H r=some (rd bs p)) (hb:Cz bs) (hp:0≤p) (hp2:p≤1000000000000):ev R 75 [.ptr r 0 0 0] H=some (.d (.str (P9 bs p)),Bu H r (rd bs (p+1))):=by
 refine Bi (fn:=f75) rfl rfl ?_
 have q:=Bs6 H r bs p Mo h hb hp hp2 (by simp[Mo])
 have m:Be (ev R) 100 [.d (.str [120]), .d (.int .i64 40)]=some (.d (.str (Wg [120] 40 []))):=Bb fun H=>Bun H [120] 40 (by omega) (by simp)
 unfold P9
 simp only[Mo,Bf,List.map_cons,List.map_nil] at q⊢
 simp[B9,-List.getD_eq_getElem?_getD,-List.map_map,f75,m,q,Jk]
theorem Bl1 (s:Bm) (n:Nat) (out:Bm): (Wg s n out).length=out.length+s.length*n:=by
 induction n using Nat.strongRecOn generalizing s out with
 |_ n ih=>
  rw[Wg]
  split
  ·rename_i h;subst h;simp
  ·rw[ih (n / 2) (by omega)]
   have hodd:s.length*n=s.length*(n / 2)*2+s.length*(n % 2):=by
    rw[Nat.mul_assoc,←Nat.mul_add]
    congr 1
    omega
   have hd: (s++s).length*(n / 2)=s.length*(n / 2)*2:=by rw[List.length_append,Nat.add_mul];omega
   rw[hd]
   split
   ·rename_i h;rw[h] at hodd;rw[List.length_append];omega
   ·rename_i h;have:n % 2=0:=by omega
    rw[this] at hodd;omega
theorem T2 (bs:List Int) (p:Int) (xs:List Bm) (m:Nat) (h: ∀x∈xs,x.length≤m): (ofV bs p xs).length≤m:=by
 unfold ofV
 by_cases hi: (Cr bs p xs.length).toNat<xs.length
 ·rw[List.getD_eq_getElem?_getD,List.getElem?_eq_getElem hi]
  exact h _ (List.getElem_mem hi)
 ·rw[List.getD_eq_getElem?_getD,List.getElem?_eq_none (by omega)]
  exact Nat.zero_le _
theorem Y8 (bs:List Int) (p:Int): (P9 bs p).length≤40:=by
 refine T2 bs p Mo 40 fun x hx=> ?_
 have hm:=Bl1 [120] 40 []
 simp only[Mo,List.mem_cons,List.not_mem_nil,or_false] at hx
 rcases hx with rfl|rfl|rfl|rfl|rfl|rfl|rfl|rfl|rfl|rfl|rfl<;>first| (rw[hm];simp) |simp
def Js (bs:List Int):List Int:=bs.take 2000
theorem Biy (bs:List Int) (h: ∀i,0≤bs.getD i 0∧bs.getD i 0≤255):Cz (Js bs):=by
 refine⟨by simp[Js];omega,fun i=> ?_⟩
 by_cases hi:i<2000
 ·have: (Js bs).getD i 0=bs.getD i 0:=by simp[Js,List.getD_eq_getElem?_getD,List.getElem?_take,hi]
  rw[this];exact h i
 ·have: (Js bs).getD i 0=0:=by simp[Js,List.getD_eq_getElem?_getD,List.getElem?_take,hi]
  rw[this];omega
theorem Byq (H:Hp) (bs:List Int):ev R 27 [.d (Mt bs)] H=some (.ptr (Bc H) 0 0 0,Bp H (rd (Js bs) 0)):=by
 refine Bi (fn:=f27) rfl rfl ?_
 by_cases hb:2000< (bs.length:Int)
 ·have h1:2000≤bs.length:=by omega
  have h2: (2000:Int)≤bs.length:=by omega
  simp[B9,-List.getD_eq_getElem?_getD,-List.map_map,f27,hb,h1,h2,Co,Mg,Y5,rd,Js,Un]
  simp only[Mt,List.map_take]
 ·have h1: ¬2000<bs.length:=by omega
  have e:bs.take 2000=bs:=List.take_of_length_le (by omega)
  simp[B9,-List.getD_eq_getElem?_getD,-List.map_map,f27,hb,h1,Mg,Y5,rd,Js,e,Un]
def Nn (n:Nat):Bm:=if h:n<10 then[UInt8.ofNat (48+n)] else Nn (n / 10)++[UInt8.ofNat (48+n % 10)]
termination_by n
decreasing_by omega
theorem Ba1 (n:Nat): (Nn n).length≤n+1:=by
 induction n using Nat.strongRecOn with
 |_ n ih=>
  rw[Nn]
  split
  ·simp
  ·have:=ih (n / 10) (by omega)
   rw[List.length_append]
   simp only[List.length_singleton]
   omega
theorem Bu3 (n:Nat): ∀ (H:Hp),n≤1000000000→ev R 83 [.d (.int .i64 n)] H=some (.d (.str (Nn n)),H):=by
 induction n using Nat.strongRecOn with
 |_ n ih=>
  intro H hn
  refine Bi (fn:=f83) rfl rfl ?_
  have c1: ¬ (n:Int)< -9223372036854775807:=by omega
  have c2: ¬ (n:Int)<0:=by omega
  by_cases c3:n<10
  ·have c3': (n:Int)<10:=by omega
   have w1:IntKind.i64.wrap (48+(n:Int))=48+n:=IntWalk.i64_in _ (by omega)
   have w2:IntKind.u8.wrap (48+(n:Int))=48+n:=IntWalk.u8_in _ (by omega)
   have t: (48+(n:Int)).toNat=48+n:=by omega
   rw[Nn,dif_pos c3]
   simp[B9,-List.getD_eq_getElem?_getD,-List.map_map,f83,c1,c2,c3,c3',w1,w2,t,Nc,Th]
  ·have c3': ¬ (n:Int)<10:=by omega
   have q:Be (ev R) 83 [.d (.int .i64 ((n / 10:Nat):Int))]=some (.d (.str (Nn (n / 10)))):=Bb fun H=>ih (n / 10) (by omega) H (by omega)
   obtain⟨k,hk⟩: ∃k:Int,((n / 10:Nat):Int)=k:=⟨_,rfl⟩
   obtain⟨d,hd⟩: ∃d:Int,(n:Int).tmod 10=d:=⟨_,rfl⟩
   have hd':d=((n % 10:Nat):Int):=by rw[←hd,Int.tmod_eq_emod_of_nonneg (by omega)];omega
   rw[hk] at q
   have w0:IntKind.i64.wrap ((n:Int).tdiv 10)=k:=by rw[Int.tdiv_eq_ediv_of_nonneg (by omega),IntWalk.i64_in _ (by omega)];omega
   have w0':IntKind.i64.wrap ((n:Int) / 10)=k:=by rw[IntWalk.i64_in _ (by omega)];omega
   have hd2: (n:Int) % 10=d:=by omega
   have w1:IntKind.i64.wrap (48+d)=48+d:=IntWalk.i64_in _ (by omega)
   have w2:IntKind.u8.wrap (48+d)=48+d:=IntWalk.u8_in _ (by omega)
   have t: (48+d).toNat=48+n % 10:=by omega
   have hl:=Ba1 (n / 10)
   have l: (Nn (n / 10)).length+1≤Gz:=by unfold Gz;omega
   rw[Nn,dif_neg c3]
   simp[B9,-List.getD_eq_getElem?_getD,-List.map_map,f83,c1,c2,c3,c3',q,w0,w0',hd,hd2,w1,w2,t,l,Nc,Th]
theorem Lx (xs:List Sc) (i:Nat) (hi:i<xs.length): (xs.map G1).getD i .nilp= .agg [.str (xs.getD i ([],0)).1, .int .i64 (xs.getD i ([],0)).2]:=by
 simp[G1,List.getD_eq_getElem?_getD,hi]
theorem Rg (xs:List Pr) (i:Nat) (hi:i<xs.length): (xs.map Jh).getD i .nilp= .agg [.str (xs.getD i ([],[])).1, .str (xs.getD i ([],[])).2]:=by
 simp[Jh,List.getD_eq_getElem?_getD,hi]
theorem Ba4 (H:Hp) (s:Bm):ev R 55 [.d (.str s)] H=some (.d (.bool (decide ((s.length:Int)≥1) &&decide ((s.length:Int)≤12))),H):=by
 refine Bi (fn:=f55) rfl rfl ?_
 have p:=Ll (s.length:Int) 1 12
 simp[B9,-List.getD_eq_getElem?_getD,-List.map_map,f55,p]
theorem Bd5 (H:Hp) (s:Bm):ev R 64 [.d (.str s)] H=some (.d (.bool (decide ((s.length:Int)≥1) &&decide ((s.length:Int)≤12))),H):=by
 refine Bi (fn:=f64) rfl rfl ?_
 have p:=Xp (s.length:Int) 1 12
 simp[B9,-List.getD_eq_getElem?_getD,-List.map_map,f64,p]
def De (p:Nat→Bool):Nat→Nat→Bool
 |0,_=>false
 |n+1,i=>p i||De p n (i+1)
def Jl (xs:List Bm) (i:Nat):Bool:= !Op.bytesLess (xs.getD (i - 1) []) (xs.getD i [])
def D9 (xs:List Bm):Bool:= !De (Jl xs) (xs.length - 1) 1&&B5 xs
theorem Bvf (n0:Nat) (xs:List Bm) (hx:xs.length≤9223372036854775807) (H:Hp): ∀ (n i:Nat) (e:Env),xs.length≤i+n→i+n≤xs.length+1→1≤i→(n=0∨i+n=xs.length)→e.get 0= .d (Bf xs)→e.get 3= .d (.int .i64 i)→
  ∃e',Bg (Bo (ev R) R.glob n0 Bg X7) [0,3] ⟨e,H⟩=some ((bif De (Jl xs) n i then .ret else .exit 0),⟨e',H⟩)∧
   (De (Jl xs) n i=true→e'.get 2= .d (.bool false))∧(De (Jl xs) n i=false→e'.get 0= .d (Bf xs))
 |0,i,e,h1,h2,h3,h4,g0,g3=>by
  have c: ¬ (i:Int)< (xs.length:Int):=by omega
  have c': ¬i<xs.length:=by omega
  rw[Bz]
  simp only[De]
  refine⟨?_, ?_, ?_, ?_⟩
  rotate_left
  ·simp[B9,-List.getD_eq_getElem?_getD,-List.map_map,X7,g0,g3,Bf,c,c']
   try rfl
  ·intro h;simp at h
  ·intro _;simp[B9,-List.getD_eq_getElem?_getD,-List.map_map,g0,Bf]
 |n+1,i,e,h1,h2,h3,h4,g0,g3=>by
  have h4:i+(n+1)=xs.length:=by omega
  have c':i<xs.length:=by omega
  have ih:=Bvf n0 xs hx H n (i+1)
  have ga:=Cw xs i c'
  have gb:=Cw xs (i - 1) (by omega)
  have hp:Jl xs i= !Op.bytesLess (xs.getD (i - 1) []) (xs.getD i []):=rfl
  obtain⟨I,hI⟩: ∃I:Int,(i:Int)=I:=⟨_,rfl⟩
  obtain⟨I2,hI2⟩: ∃I:Int,((i+1:Nat):Int)=I:=⟨_,rfl⟩
  obtain⟨J,hJ⟩: ∃I:Int,((i - 1:Nat):Int)=I:=⟨_,rfl⟩
  have w0:IntKind.i64.wrap (I - 1)=J:=by rw[IntWalk.i64_in _ (by omega)];omega
  have w1:IntKind.i64.wrap (I+1)=I2:=by rw[IntWalk.i64_in _ (by omega)];omega
  have c:I< (xs.length:Int):=by omega
  have cj:J< (xs.length:Int):=by omega
  have p0:0≤I:=by omega
  have pj:0≤J:=by omega
  have t0:I.toNat=i:=by omega
  have tj:J.toNat=i - 1:=by omega
  have hk:xs.length≤i+1+n:=by omega
  have hk2:i+1+n≤xs.length+1:=by omega
  have hk3:n=0∨i+1+n=xs.length:=by omega
  rw[hI] at g3
  rw[hI2] at ih
  simp only[De]
  generalize Jl xs i=b at*
  generalize De (Jl xs) n (i+1)=S at*
  generalize xs.getD i []=x at*
  generalize xs.getD (i - 1) []=y at*
  rw[Bz]
  generalize Bg (Bo (ev R) R.glob n0 Bg X7) [0,3]=F at ih⊢
  cases hl:Op.bytesLess y x with
  |false=>
   rw[hl] at hp
   subst hp
   simp only[Bool.not_false,Bool.true_or,cond_true]
   refine⟨?_, ?_, ?_, ?_⟩
   rotate_left
   ·simp[B9,-List.getD_eq_getElem?_getD,-List.map_map,X7,g0,g3,Bf,c,cj,p0,pj,t0,tj,w0,ga,gb,hl]
    try rfl
   ·intro _;simp[B9,-List.getD_eq_getElem?_getD,-List.map_map]
   ·intro h;simp at h
  |true=>
   rw[hl] at hp
   subst hp
   simp only[Bool.not_true,Bool.false_or]
   simp[B9,-List.getD_eq_getElem?_getD,-List.map_map,X7,g0,g3,Bf,c,cj,p0,pj,t0,tj,w0,w1,ga,gb,hl]
   refine ih _ hk hk2 (by omega) hk3 ?_ ?_<;>rfl
theorem Ba5 (H:Hp) (xs:List Bm) (hx:xs.length≤9223372036854775807):ev R 57 [.d (Bf xs)] H=some (.d (.bool (D9 xs)),H):=by
 refine Bi (fn:=f57) rfl rfl ?_
 have p:=Bb (cl:=ev R) fun H=>Zh H xs hx
 obtain⟨e',he,h1,h2⟩:=Bvf (Bc H) xs hx H (xs.length - 1) 1 [(0, .d (Bf xs)),(3, .d (.int .i64 1))] (by omega) (by omega) (by omega) (by omega) rfl rfl
 unfold D9
 cases hb:De (Jl xs) (xs.length - 1) 1 with
 |true=>
  have h1:=h1 hb
  simp only[hb,cond_true] at he
  simp[B9,-List.getD_eq_getElem?_getD,-List.map_map,f57,he,h1]
 |false=>
  have h2:=h2 hb
  simp only[hb,cond_false] at he
  simp[B9,-List.getD_eq_getElem?_getD,-List.map_map,f57,he,h2,p]
theorem Bvi (n0:Nat) (xs:List Bm) (hx:xs.length≤9223372036854775807) (H:Hp): ∀ (n i:Nat) (e:Env),xs.length≤i+n→i+n≤xs.length+1→1≤i→(n=0∨i+n=xs.length)→e.get 0= .d (Bf xs)→e.get 3= .d (.int .i64 i)→
  ∃e',Bg (Bo (ev R) R.glob n0 Bg X9) [0,3] ⟨e,H⟩=some ((bif De (Jl xs) n i then .ret else .exit 0),⟨e',H⟩)∧
   (De (Jl xs) n i=true→e'.get 2= .d (.bool false))∧(De (Jl xs) n i=false→e'.get 0= .d (Bf xs))
 |0,i,e,h1,h2,h3,h4,g0,g3=>by
  have c: ¬ (i:Int)< (xs.length:Int):=by omega
  have c': ¬i<xs.length:=by omega
  rw[Bz]
  simp only[De]
  refine⟨?_, ?_, ?_, ?_⟩
  rotate_left
  ·simp[B9,-List.getD_eq_getElem?_getD,-List.map_map,X9,g0,g3,Bf,c,c']
   try rfl
  ·intro h;simp at h
  ·intro _;simp[B9,-List.getD_eq_getElem?_getD,-List.map_map,g0,Bf]
 |n+1,i,e,h1,h2,h3,h4,g0,g3=>by
  have h4:i+(n+1)=xs.length:=by omega
  have c':i<xs.length:=by omega
  have ih:=Bvi n0 xs hx H n (i+1)
  have ga:=Cw xs i c'
  have gb:=Cw xs (i - 1) (by omega)
  have hp:Jl xs i= !Op.bytesLess (xs.getD (i - 1) []) (xs.getD i []):=rfl
  obtain⟨I,hI⟩: ∃I:Int,(i:Int)=I:=⟨_,rfl⟩
  obtain⟨I2,hI2⟩: ∃I:Int,((i+1:Nat):Int)=I:=⟨_,rfl⟩
  obtain⟨J,hJ⟩: ∃I:Int,((i - 1:Nat):Int)=I:=⟨_,rfl⟩
  have w0:IntKind.i64.wrap (I - 1)=J:=by rw[IntWalk.i64_in _ (by omega)];omega
  have w1:IntKind.i64.wrap (I+1)=I2:=by rw[IntWalk.i64_in _ (by omega)];omega
  have c:I< (xs.length:Int):=by omega
  have cj:J< (xs.length:Int):=by omega
  have p0:0≤I:=by omega
  have pj:0≤J:=by omega
  have t0:I.toNat=i:=by omega
  have tj:J.toNat=i - 1:=by omega
  have hk:xs.length≤i+1+n:=by omega
  have hk2:i+1+n≤xs.length+1:=by omega
  have hk3:n=0∨i+1+n=xs.length:=by omega
  rw[hI] at g3
  rw[hI2] at ih
  simp only[De]
  generalize Jl xs i=b at*
  generalize De (Jl xs) n (i+1)=S at*
  generalize xs.getD i []=x at*
  generalize xs.getD (i - 1) []=y at*
  rw[Bz]
  generalize Bg (Bo (ev R) R.glob n0 Bg X9) [0,3]=F at ih⊢
  cases hl:Op.bytesLess y x with
  |false=>
   rw[hl] at hp
   subst hp
   simp only[Bool.not_false,Bool.true_or,cond_true]
   refine⟨?_, ?_, ?_, ?_⟩
   rotate_left
   ·simp[B9,-List.getD_eq_getElem?_getD,-List.map_map,X9,g0,g3,Bf,c,cj,p0,pj,t0,tj,w0,ga,gb,hl]
    try rfl
   ·intro _;simp[B9,-List.getD_eq_getElem?_getD,-List.map_map]
   ·intro h;simp at h
  |true=>
   rw[hl] at hp
   subst hp
   simp only[Bool.not_true,Bool.false_or]
   simp[B9,-List.getD_eq_getElem?_getD,-List.map_map,X9,g0,g3,Bf,c,cj,p0,pj,t0,tj,w0,w1,ga,gb,hl]
   refine ih _ hk hk2 (by omega) hk3 ?_ ?_<;>rfl
theorem Bd6 (H:Hp) (xs:List Bm) (hx:xs.length≤9223372036854775807):ev R 66 [.d (Bf xs)] H=some (.d (.bool (D9 xs)),H):=by
 refine Bi (fn:=f66) rfl rfl ?_
 have p:=Bb (cl:=ev R) fun H=>Ba8 H xs hx
 obtain⟨e',he,h1,h2⟩:=Bvi (Bc H) xs hx H (xs.length - 1) 1 [(0, .d (Bf xs)),(3, .d (.int .i64 1))] (by omega) (by omega) (by omega) (by omega) rfl rfl
 unfold D9
 cases hb:De (Jl xs) (xs.length - 1) 1 with
 |true=>
  have h1:=h1 hb
  simp only[hb,cond_true] at he
  simp[B9,-List.getD_eq_getElem?_getD,-List.map_map,f66,he,h1]
 |false=>
  have h2:=h2 hb
  simp only[hb,cond_false] at he
  simp[B9,-List.getD_eq_getElem?_getD,-List.map_map,f66,he,h2,p]
theorem Blf (H:Hp) (xs:List Bm) (hx:xs.length≤1000000):ev R 85 [.d (Bf xs)] H=some (.slc (Bc H) 0 0 xs.length,ap H [.row 0 1 ((xs.map D.str).map V.d)]):=by
 refine Bi (fn:=f85) rfl rfl ?_
 have r:xs.length*16≤Cb:=by unfold Cb;omega
 simp[B4,-List.getD_eq_getElem?_getD,-List.map_map,f85,Bf,r,Un]
theorem Xq (xs:List Bm) (hx:xs.length≤1000000):Fe (ev R) 85 [.d (Bf xs)]=some (.d (Bf xs)):=by
 refine G9 fun H=> ⟨_,_,Blf H xs hx, ?_,Lm H _⟩
 simp[B4,-List.getD_eq_getElem?_getD,-List.map_map,Bf]
theorem P5 (xs:List Bm) (hx:xs.length≤1000000):Be (ev R) 85 [.d (Bf xs)]=none:=by
 cases h:Be (ev R) 85 [.d (Bf xs)] with
 |none=>rfl
 |some v=>
  have h1:=Db h []
  rw[Blf [] xs hx] at h1
  simp[ap] at h1
theorem Br (s:Bm):Be (ev R) 108 [.d (.str s)]=some (.d (T4 (.mk 1 0 s [] []))):=Bb fun H=>by
 refine Bi (fn:=f108) rfl rfl ?_
 simp[B4,-List.getD_eq_getElem?_getD,-List.map_map,f108,Bf]
theorem F6 (n:Int):Be (ev R) 131 [.d (.int .i64 n)]=some (.d (T4 (.mk 2 n [] [] []))):=Bb fun H=>by
 refine Bi (fn:=f131) rfl rfl ?_
 simp[B4,-List.getD_eq_getElem?_getD,-List.map_map,f131,Bf]
theorem Ym (s:Bm):Be (ev R) 130 [.d (.str s)]=some (.d (T4 (.mk 3 0 s [] []))):=Bb fun H=>by
 refine Bi (fn:=f130) rfl rfl ?_
 simp[B4,-List.getD_eq_getElem?_getD,-List.map_map,f130,Bf]
theorem Fa:Be (ev R) 129 []=some (.d (T4 (.mk 4 0 [] [] []))):=Bb fun H=>by
 refine Bi (fn:=f129) rfl rfl ?_
 simp[B4,-List.getD_eq_getElem?_getD,-List.map_map,f129,Bf]
theorem Rf (xs:List Bm):Be (ev R) 141 [.d (Bf xs)]=some (.d (T4 (.mk 5 0 [] xs []))):=Bb fun H=>by
 refine Bi (fn:=f141) rfl rfl ?_
 simp[B4,-List.getD_eq_getElem?_getD,-List.map_map,f141,Bf]
def Fr (b:Bool):Re:= .mk 2 (if b then 1 else 0) [] [] []
theorem Yn (b:Bool):Be (ev R) 144 [.d (.bool b)]=some (.d (T4 (Fr b))):=Bb fun H=>by
 refine Bi (fn:=f144) rfl rfl ?_
 have a:=F6 1
 have c:=F6 0
 cases b<;>simp[B4,-List.getD_eq_getElem?_getD,-List.map_map,f144,a,c,Fr]
theorem Yo (n:Int):Be (ev R) 163 [.d (.int .i64 n)]=some (.d (.bool (decide (-1000000000≤n) &&decide (n≤1000000000)))):=Bb fun H=>by
 refine Bi (fn:=f163) rfl rfl ?_
 have p:=Bb (cl:=ev R) fun H=>Buw H n (-1000000000) 1000000000
 simp[B4,-List.getD_eq_getElem?_getD,-List.map_map,f163,p]
def Gm (n f t:Int):Int×Int:=
 let f:=if f<0 then f+n else f
 let t:=if t<0 then t+n else t
 let f:=if f<0 then 0 else f
 let t:=if n≤t then n - 1 else t
 if t<f then(0,0) else(f,t+1)
theorem Bl8 (n f t:Int) (hn:0≤n∧n≤1000000) (hf: -1000000000≤f∧f≤1000000000) (ht: -1000000000≤t∧t≤1000000000):
  Be (ev R) 134 [.d (.int .i64 n), .d (.int .i64 f), .d (.int .i64 t)]=some (.tup [.d (.int .i64 (Gm n f t).1), .d (.int .i64 (Gm n f t).2)]):=Bb fun H=>by
 refine Bi (fn:=f134) rfl rfl ?_
 have w1:IntKind.i64.wrap (f+n)=f+n:=IntWalk.i64_in _ (by omega)
 have w2:IntKind.i64.wrap (t+n)=t+n:=IntWalk.i64_in _ (by omega)
 have w3:IntKind.i64.wrap (n - 1)=n - 1:=IntWalk.i64_in _ (by omega)
 have w4:IntKind.i64.wrap (t+1)=t+1:=IntWalk.i64_in _ (by omega)
 have w5:IntKind.i64.wrap (t+n+1)=t+n+1:=IntWalk.i64_in _ (by omega)
 have w6:IntKind.i64.wrap n=n:=IntWalk.i64_in _ (by omega)
 unfold Gm
 by_cases a:f<0<;>by_cases b:t<0
 ·by_cases c:f+n<0<;>by_cases d:n≤t+n
  ·by_cases k:n - 1<0<;>first| (exfalso;omega) | (simp[B4,-List.getD_eq_getElem?_getD,-List.map_map,f134,a,b,c,d,k,w1,w2,w3,w4,w5,w6])
  ·by_cases k:t+n<0<;>first| (exfalso;omega) | (simp[B4,-List.getD_eq_getElem?_getD,-List.map_map,f134,a,b,c,d,k,w1,w2,w3,w4,w5,w6])
  ·by_cases k:n - 1<f+n<;>first| (exfalso;omega) | (simp[B4,-List.getD_eq_getElem?_getD,-List.map_map,f134,a,b,c,d,k,w1,w2,w3,w4,w5,w6])
  ·by_cases k:t+n<f+n<;>first| (exfalso;omega) | (simp[B4,-List.getD_eq_getElem?_getD,-List.map_map,f134,a,b,c,d,k,w1,w2,w3,w4,w5,w6])
 ·by_cases c:f+n<0<;>by_cases d:n≤t
  ·by_cases k:n - 1<0<;>first| (exfalso;omega) | (simp[B4,-List.getD_eq_getElem?_getD,-List.map_map,f134,a,b,c,d,k,w1,w2,w3,w4,w5,w6])
  ·by_cases k:t<0<;>first| (exfalso;omega) | (simp[B4,-List.getD_eq_getElem?_getD,-List.map_map,f134,a,b,c,d,k,w1,w2,w3,w4,w5,w6])
  ·by_cases k:n - 1<f+n<;>first| (exfalso;omega) | (simp[B4,-List.getD_eq_getElem?_getD,-List.map_map,f134,a,b,c,d,k,w1,w2,w3,w4,w5,w6])
  ·by_cases k:t<f+n<;>first| (exfalso;omega) | (simp[B4,-List.getD_eq_getElem?_getD,-List.map_map,f134,a,b,c,d,k,w1,w2,w3,w4,w5,w6])
 ·by_cases c:f<0<;>by_cases d:n≤t+n
  ·by_cases k:n - 1<0<;>first| (exfalso;omega) | (simp[B4,-List.getD_eq_getElem?_getD,-List.map_map,f134,a,b,c,d,k,w1,w2,w3,w4,w5,w6])
  ·by_cases k:t+n<0<;>first| (exfalso;omega) | (simp[B4,-List.getD_eq_getElem?_getD,-List.map_map,f134,a,b,c,d,k,w1,w2,w3,w4,w5,w6])
  ·by_cases k:n - 1<f<;>first| (exfalso;omega) | (simp[B4,-List.getD_eq_getElem?_getD,-List.map_map,f134,a,b,c,d,k,w1,w2,w3,w4,w5,w6])
  ·by_cases k:t+n<f<;>first| (exfalso;omega) | (simp[B4,-List.getD_eq_getElem?_getD,-List.map_map,f134,a,b,c,d,k,w1,w2,w3,w4,w5,w6])
 ·by_cases c:f<0<;>by_cases d:n≤t
  ·by_cases k:n - 1<0<;>first| (exfalso;omega) | (simp[B4,-List.getD_eq_getElem?_getD,-List.map_map,f134,a,b,c,d,k,w1,w2,w3,w4,w5,w6])
  ·by_cases k:t<0<;>first| (exfalso;omega) | (simp[B4,-List.getD_eq_getElem?_getD,-List.map_map,f134,a,b,c,d,k,w1,w2,w3,w4,w5,w6])
  ·by_cases k:n - 1<f<;>first| (exfalso;omega) | (simp[B4,-List.getD_eq_getElem?_getD,-List.map_map,f134,a,b,c,d,k,w1,w2,w3,w4,w5,w6])
  ·by_cases k:t<f<;>first| (exfalso;omega) | (simp[B4,-List.getD_eq_getElem?_getD,-List.map_map,f134,a,b,c,d,k,w1,w2,w3,w4,w5,w6])
end Go.Proofs.YtjdmiodinhlchaaGreat.Code
namespace Go.Proofs.YtjdmiodinhlchaaGreat.Code
open Go Go.Ev
inductive Res (α:Type) where
 |ok (a:α) (r:Bm)
 |short
 |bad
def Res.bind {α β:Type} (x:Res α) (f:α→Bm→Res β):Res β:=
 match x with
 | .ok a r=>f a r
 | .short=> .short
 | .bad=> .bad
def Bhd (b:UInt8):Bm→Res Unit
 | []=> .short
 |c::r=>if c=b then .ok () r else .bad
def U5 (c:UInt8):Bool:=decide (48≤c.toNat) &&decide (c.toNat≤57)
def Bs4 (n:Int) (c:UInt8):Int:=10*n+((c.toNat:Int) - 48)
def Biz (low high:Int):Bm→Int→Bool→Res Int
 | [],_,_=> .short
 |c::r,n,first=>
  if U5 c=true then
   if first=false∧n=0 then .bad
   else if low≤Bs4 n c∧Bs4 n c≤high then Biz low high r (Bs4 n c) false else .bad
  else if first=true then .bad
  else if c=13 then(Bhd 10 r).bind fun _ r'=> .ok n r' else .bad
def Bw7 (mark:UInt8) (low high:Int) (t:Bm):Res Int:=(Bhd mark t).bind fun _ r=>Biz low high r 0 true
def Bw8 (n:Nat) (t:Bm):Res Bm:=if t.length<n then .short else .ok (t.take n) (t.drop n)
def B0z {α:Type} (x:α) (t:Bm):Res α:=(Bhd 13 t).bind fun _ r=> (Bhd 10 r).bind fun _ r'=> .ok x r'
def Bw6 (t:Bm):Res Bm:=(Bw7 36 0 40 t).bind fun n r=> (Bw8 n.toNat r).bind fun x r'=>B0z x r'
def Bl5:Nat→Bm→Res (List Bm)
 |0,t=> .ok [] t
 |n+1,t=> (Bw6 t).bind fun x r=> (Bl5 n r).bind fun xs r'=> .ok (x::xs) r'
def Bth (t:Bm):Res (List Bm):=(Bw7 42 1 8 t).bind fun n r=>Bl5 n.toNat r
structure Good {α:Type} (P:Bm→Res α):Prop where
 ok: ∀t x r,P t= .ok x r→∃u,t=u++r∧∀r',P (u++r')= .ok x r'
 bad: ∀t t',P t= .bad→P (t++t')= .bad
theorem Good.bind {α β:Type} {P:Bm→Res α} {Q:α→Bm→Res β} (h:Good P) (k: ∀x,Good (Q x)):Good fun t=> (P t).bind Q:=by
 constructor
 ·intro t x r e0
  have e: (P t).bind Q= .ok x r:=e0
  clear e0
  cases hp:P t with
  |short=>rw[hp] at e;simp[Res.bind] at e
  |bad=>rw[hp] at e;simp[Res.bind] at e
  |ok y r1=>
   rw[hp] at e
   simp only[Res.bind] at e
   obtain⟨u1,rfl,h1⟩:=h.ok t y r1 hp
   obtain⟨u2,rfl,h2⟩:=(k y).ok r1 x r e
   refine⟨u1++u2,by rw[List.append_assoc],fun r'=> ?_⟩
   simp only[List.append_assoc,h1,Res.bind,h2]
 ·intro t t' e0
  have e: (P t).bind Q= .bad:=e0
  clear e0
  show(P (t++t')).bind Q= .bad
  cases hp:P t with
  |short=>rw[hp] at e;simp[Res.bind] at e
  |bad=>rw[h.bad t t' hp];rfl
  |ok y r1=>
   rw[hp] at e
   simp only[Res.bind] at e
   obtain⟨u1,rfl,h1⟩:=h.ok t y r1 hp
   rw[List.append_assoc,h1]
   exact(k y).bad r1 t' e
theorem Good.pure {α:Type} (x:α):Good fun t=>Res.ok x t:=
 ⟨fun t y r e=> (by cases e;exact⟨[],rfl,fun _=>rfl⟩),fun t t' e=> (by cases e)⟩
def Px (t:Bm):List Bm:=
 match Bth t with
 | .ok x _=>x
 | .short=> []
 | .bad=> []
def Tm:Bm→Nat→Int→Option Int
 | [],_,n=>some n
 |c::r,i,n=>if U5 c=true then Tm r (i+1) (if i<10 then n*10+((c.toNat:Int) - 48) else n) else none
def Tn (s:Bm):Int:=
 match Tm s 0 0 with
 |none=> -1
 |some n=>if s.length<1∨10<s.length∨(1<s.length∧s.getD 0 0=48) then -1 else n
theorem Bs5 {c:UInt8} (h:U5 c=true):48≤c.toNat∧c.toNat≤57:=by
 simpa[U5] using h
def Bha (xs:List Bm):Prop:=(∀x∈xs,x.length≤40)∧1≤xs.length∧xs.length≤8
end Go.Proofs.YtjdmiodinhlchaaGreat.Code
namespace Go.Proofs.YtjdmiodinhlchaaGreat.Code
open Go Go.Ev Go.Proofs
theorem Bx7 (a b:UInt8): ((a.toNat:Int)=(b.toNat:Int))↔a=b:=by
 constructor
 ·intro h;exact UInt8.toNat_inj.1 (by omega)
 ·rintro rfl;rfl
structure Stop (low high:Int) (s:Bm) (k n0:Nat) (n:Int) (k1:Nat) (n1:Int) (sh bd:Bool):Prop where
 le:k1≤s.length
 ge:n0≤k1
 say: (sh=false∧bd=false∧(∃c t,s.drop k1=c::t∧U5 c=false)∧Biz low high (s.drop k) n (decide (k=n0))=Biz low high (s.drop k1) n1 (decide (k1=n0)))∨(sh=true∧bd=false∧Biz low high (s.drop k) n (decide (k=n0))= .short)∨(sh=false∧bd=true∧Biz low high (s.drop k) n (decide (k=n0))= .bad)
theorem Bie {s:Bm} {k:Nat} (hk:k<s.length):s.drop k=s.getD k 0::s.drop (k+1):=by
 rw[List.getD_eq_getElem?_getD,List.getElem?_eq_getElem hk]
 exact List.drop_eq_getElem_cons hk
def Mv (z:Int):Bm:=if z<0 then 45::Nn z.natAbs else Nn z.toNat
theorem Bu4 (H:Hp) (z:Int) (h: -1000000000≤z∧z≤1000000000):ev R 83 [.d (.int .i64 z)] H=some (.d (.str (Mv z)),H):=by
 unfold Mv
 by_cases c:z<0
 ·rw[if_pos c]
  refine Bi (fn:=f83) rfl rfl ?_
  obtain⟨n,hn⟩: ∃n:Nat,z.natAbs=n:=⟨_,rfl⟩
  have hz: -z=(n:Int):=by omega
  have c1: ¬z< -9223372036854775807:=by omega
  have w:IntKind.i64.wrap (-z)=(n:Int):=by rw[IntWalk.i64_in _ (by omega)];exact hz
  have p:=Bb (cl:=ev R) fun H=>Bu3 n H (by omega)
  have dl:=Ba1 n
  have l:1+(Nn n).length≤Gz:=by unfold Gz;omega
  rw[hn]
  generalize Nn n=x at*
  generalize(n:Int)=N at*
  simp[B9,-List.getD_eq_getElem?_getD,-List.map_map,f83,c,c1,w,p,l]
 ·rw[if_neg c]
  obtain⟨n,rfl⟩:=Int.eq_ofNat_of_zero_le (show 0≤z by omega)
  exact Bu3 n H (by omega)
end Go.Proofs.YtjdmiodinhlchaaGreat.Code
