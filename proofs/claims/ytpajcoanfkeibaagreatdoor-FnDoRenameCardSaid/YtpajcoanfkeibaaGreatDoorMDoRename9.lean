/- Lemmas (several texts in one). -/
import Derived.Test.YtpajcoanfkeibaaGreatDoorMDoRename4
import Derived.Test.YtpajcoanfkeibaaGreatDoorMDoRename6
import Derived.Test.YtpajcoanfkeibaaGreatDoorMDoRename7
import Derived.Test.YtpajcoanfkeibaaGreatDoorMDoRename8
set_option maxRecDepth 100000
set_option linter.unusedSimpArgs false
set_option linter.unusedVariables false
namespace Go.Proofs.YtpajcoanfkeibaaGreatDoor.Code
open Go Go.Ev Go.Proofs
abbrev Sb (bs:List Int):D:= .vals 1 (bs.map (.int .u8))
def rd (bs:List Int) (p:Int):Ev.Obj:= .row 0 2 [.d (.agg [Sb bs, .int .i64 p])]
theorem Y1 {H:Hp} {r:Nat} {bs:List Int} {p:Int} (h:Cf H r=some (rd bs p)):Cw H r 0=some (2,[.d (.agg [Sb bs, .int .i64 p])]):=by
 simp[Cw,h,rd]
theorem Bsm {H:Hp} {r:Nat} {bs:List Int} {p:Int} (h:Cf H r=some (rd bs p)):Dn H r 0 0 0 1=some [.d (Sb bs)]:=by
 simp[Dn,Y1 h,V.cells]
theorem Bh8 {H:Hp} {r:Nat} {bs:List Int} {p:Int} (h:Cf H r=some (rd bs p)):Dn H r 0 0 1 1=some [.d (.int .i64 p)]:=by
 simp[Dn,Y1 h,V.cells]
theorem Bsn {H:Hp} {r:Nat} {bs:List Int} {p q:Int} (h:Cf H r=some (rd bs p)):Na H r 0 0 1 [.d (.int .i64 q)]=some (Bz H r (rd bs q)):=by
 simp[Na,Y1 h,V.cells,Lt,V.isAgg,Ni,Gt,rd]
theorem Lb {H:Hp} {r:Nat} {o:Ev.Obj} :Cx (Bz H r o) (Bc H)=Bz H r o:=by
 have:=Jq (Bz H r o)
 rwa[Br] at this
def Dk (bs:List Int):Prop:=bs.length≤2000∧∀i,0≤bs.getD i 0∧bs.getD i 0≤255
theorem Yf (bs:List Int) (i:Nat) (hi:i<bs.length): (bs.map (D.int .u8)).getD i .nilp= .int .u8 (bs.getD i 0):=by
 simp[List.getD_eq_getElem?_getD,hi]
theorem Bu7 (x y:Int) (hx:0≤x) (hx2:x<9223372036854775808) (hy:0≤y) (hy2:y<9223372036854775808): ∃z,U3 .xor .i64 x y=some z∧0≤z:=by
 obtain⟨a,rfl⟩:=Int.eq_ofNat_of_zero_le hx
 obtain⟨b,rfl⟩:=Int.eq_ofNat_of_zero_le hy
 have ha:a<2 ^ 63:=by omega
 have hb:b<2 ^ 63:=by omega
 have hlt:a ^^^ b<2 ^ 63:=Nat.xor_lt_two_pow ha hb
 have e: ((BitVec.ofInt 64 (a:Int) ^^^ BitVec.ofInt 64 (b:Int)).toNat:Int)=((a ^^^ b:Nat):Int):=by
  rw[BitVec.ofInt_natCast,BitVec.ofInt_natCast,BitVec.toNat_xor,BitVec.toNat_ofNat,BitVec.toNat_ofNat,Nat.mod_eq_of_lt (by omega),Nat.mod_eq_of_lt (by omega)]
 refine⟨((a ^^^ b:Nat):Int), ?_,by omega⟩
 show some (IntKind.i64.wrap ((BitVec.ofInt 64 (a:Int) ^^^ BitVec.ofInt 64 (b:Int)).toNat:Int))=_
 rw[e,IntWalk.i64_in _ (by omega)]
def Z0 (bs:List Int) (p:Int):Int:=
 bs.getD (p.tmod bs.length).toNat 0*131+bs.getD ((p*7+3).tmod bs.length).toNat 0*1117+p*29+p.tdiv bs.length*53
def Dc (bs:List Int) (p n:Int):Int:=
 if n<1 then 0 else if bs.length=0 then 0 else if p<bs.length then(bs.getD p.toNat 0).tmod n else((U3 .xor .i64 (Z0 bs p) ((Z0 bs p).tdiv 64)).getD 0).tmod n
theorem Brf (H:Hp) (r:Nat) (bs:List Int) (p n:Int) (h:Cf H r=some (rd bs p)) (hb:Dk bs) (hp:0≤p) (hp2:p≤1000000000000):ev R 43 [.ptr r 0 0 0, .d (.int .i64 n)] H=some (.d (.int .i64 (Dc bs p n)),Bz H r (rd bs (p+1))):=by
 refine Bh (fn:=f43) rfl rfl ?_
 have w1:IntKind.i64.wrap (p+1)=p+1:=IntWalk.i64_in _ (by omega)
 have w2:IntKind.i64.wrap p=p:=IntWalk.i64_in _ (by omega)
 have hl:=D6 h
 have h1:Cf (Bz H r (rd bs (p+1))) r=some (rd bs (p+1)):=Co _ hl
 have a0:=Bsm h1
 have a1:=Bh8 h1
 have b1:=Bh8 h
 have st:=Bsn (q:=p+1) h
 unfold Dc
 by_cases hn:n<1
 ·simp[Cn,-List.getD_eq_getElem?_getD,-List.map_map,f43,w1,w2,a0,a1,b1,st,hn,Lb]
 ·by_cases hz:bs.length=0
  ·have hz':bs=[]:=List.eq_nil_of_length_eq_zero hz
   subst hz'
   simp[Cn,-List.getD_eq_getElem?_getD,-List.map_map,f43,w1,w2,a0,a1,b1,st,hn,Lb]
  ·have hz': ¬bs=[]:=fun e=>hz (by subst e;rfl)
   have n0: ¬n=0:=by omega
   by_cases hlt:p< (bs.length:Int)
   ·have g:=Yf bs p.toNat (by omega)
    have bb:=hb.2 p.toNat
    have w3:IntKind.i64.wrap (bs.getD p.toNat 0)=bs.getD p.toNat 0:=IntWalk.i64_in _ (by omega)
    simp[Cn,-List.getD_eq_getElem?_getD,-List.map_map,f43,w1,w2,w3,a0,a1,b1,st,hn,hz,hz',hp,hlt,g,n0,Lb]
   ·have L0: (0:Int)<bs.length:=by omega
    have lz: ¬ (bs.length:Int)=0:=by omega
    have i1:0≤p.tmod bs.length:=Int.tmod_nonneg _ hp
    have i2:p.tmod bs.length<bs.length:=Int.tmod_lt_of_pos _ L0
    have j1:0≤(p*7+3).tmod bs.length:=Int.tmod_nonneg _ (by omega)
    have j2: (p*7+3).tmod bs.length<bs.length:=Int.tmod_lt_of_pos _ L0
    have g1:=Yf bs (p.tmod bs.length).toNat (by omega)
    have g2:=Yf bs ((p*7+3).tmod bs.length).toNat (by omega)
    have c1:=hb.2 (p.tmod bs.length).toNat
    have c2:=hb.2 ((p*7+3).tmod bs.length).toNat
    have d0:0≤p.tdiv bs.length∧p.tdiv bs.length≤p:=by
     rw[Int.tdiv_eq_ediv_of_nonneg hp]
     exact⟨Int.ediv_nonneg hp (by omega),Int.ediv_le_self _ hp⟩
    obtain⟨X,hX⟩: ∃X,X=Z0 bs p:=⟨_,rfl⟩
    have hXe:=hX
    unfold Z0 at hXe
    rw[←hX]
    generalize bs.getD (p.tmod bs.length).toNat 0=x1 at g1 c1 hXe⊢
    generalize bs.getD ((p*7+3).tmod bs.length).toNat 0=x2 at g2 c2 hXe⊢
    generalize hq:p.tdiv bs.length=q at d0 hXe⊢
    have xb:0≤X∧X<9223372036854775807:=by omega
    have t0:0≤X.tdiv 64∧X.tdiv 64≤X:=by
     rw[Int.tdiv_eq_ediv_of_nonneg xb.1]
     omega
    obtain⟨z,hz1,hz2⟩:=Bu7 X (X.tdiv 64) xb.1 (by omega) t0.1 (by omega)
    have v1:IntKind.i64.wrap x1=x1:=IntWalk.i64_in _ (by omega)
    have v2:IntKind.i64.wrap (x1*131)=x1*131:=IntWalk.i64_in _ (by omega)
    have v3:IntKind.i64.wrap (p*7)=p*7:=IntWalk.i64_in _ (by omega)
    have v4:IntKind.i64.wrap (p*7+3)=p*7+3:=IntWalk.i64_in _ (by omega)
    have v5:IntKind.i64.wrap x2=x2:=IntWalk.i64_in _ (by omega)
    have v6:IntKind.i64.wrap (x2*1117)=x2*1117:=IntWalk.i64_in _ (by omega)
    have v7:IntKind.i64.wrap (x1*131+x2*1117)=x1*131+x2*1117:=IntWalk.i64_in _ (by omega)
    have v8:IntKind.i64.wrap (p*29)=p*29:=IntWalk.i64_in _ (by omega)
    have v9:IntKind.i64.wrap (x1*131+x2*1117+p*29)=x1*131+x2*1117+p*29:=IntWalk.i64_in _ (by omega)
    have v10:IntKind.i64.wrap q=q:=IntWalk.i64_in _ (by omega)
    have v11:IntKind.i64.wrap (q*53)=q*53:=IntWalk.i64_in _ (by omega)
    have v12:IntKind.i64.wrap (x1*131+x2*1117+p*29+q*53)=X:=by rw[hXe];exact IntWalk.i64_in _ (by omega)
    have v13:IntKind.i64.wrap (X.tdiv 64)=X.tdiv 64:=IntWalk.i64_in _ (by omega)
    simp[Cn,-List.getD_eq_getElem?_getD,-List.map_map,f43,w1,w2,a0,a1,b1,st,hn,hz,hz',hlt,n0,lz,Lb,i1,i2,j1,j2,g1,g2,hq,v1,v2,v3,v4,v5,v6,v7,v8,v9,v10,v11,v12,v13,hz1]
theorem Jj (bs:List Int) (p n:Int) (hb:Dk bs) (hp:0≤p) (hp2:p≤1000000000000):0≤Dc bs p n∧(1≤n→Dc bs p n<n):=by
 unfold Dc
 split
 ·omega
 ·split
  ·omega
  ·split
   ·have:=hb.2 p.toNat
    exact⟨Int.tmod_nonneg _ this.1,fun h=>Int.tmod_lt_of_pos _ (by omega)⟩
   ·rename_i h1 h2 h3
    have c1:=hb.2 (p.tmod bs.length).toNat
    have c2:=hb.2 ((p*7+3).tmod bs.length).toNat
    have d0:0≤p.tdiv bs.length∧p.tdiv bs.length≤p:=by
     rw[Int.tdiv_eq_ediv_of_nonneg hp]
     exact⟨Int.ediv_nonneg hp (by omega),Int.ediv_le_self _ hp⟩
    have xb:0≤Z0 bs p∧Z0 bs p<9223372036854775807:=by
     unfold Z0
     omega
    have t0:0≤(Z0 bs p).tdiv 64∧(Z0 bs p).tdiv 64≤Z0 bs p:=by
     rw[Int.tdiv_eq_ediv_of_nonneg xb.1]
     omega
    obtain⟨z,hz1,hz2⟩:=Bu7 (Z0 bs p) ((Z0 bs p).tdiv 64) xb.1 (by omega) t0.1 (by omega)
    rw[hz1]
    exact⟨Int.tmod_nonneg _ hz2,fun h=>Int.tmod_lt_of_pos _ (by omega)⟩
def ofV (bs:List Int) (p:Int) (xs:List Bq):Bq:=xs.getD (Dc bs p xs.length).toNat []
theorem Bvw (H:Hp) (r:Nat) (bs:List Int) (p:Int) (xs:List Bq) (h:Cf H r=some (rd bs p)) (hb:Dk bs) (hp:0≤p) (hp2:p≤1000000000000) (hx:0<xs.length):ev R 45 [.ptr r 0 0 0, .d (Bf xs)] H=some (.d (.str (ofV bs p xs)),Bz H r (rd bs (p+1))):=by
 refine Bh (fn:=f45) rfl rfl ?_
 have q:=Brf H r bs p xs.length h hb hp hp2
 obtain⟨k0,k1⟩:=Jj bs p xs.length hb hp hp2
 have k1:=k1 (by omega)
 have g:=Dj xs (Dc bs p xs.length).toNat (by omega)
 simp[Cn,-List.getD_eq_getElem?_getD,-List.map_map,f45,Bf,q,k0,k1,g,Lb,ofV]
def Bbt (s:Bq) (n:Nat) (out:Bq):Bq:=
 if h:n=0 then out else Bbt (s++s) (n / 2) (if n % 2=1 then out++s else out)
termination_by n
decreasing_by omega
theorem B1z (n0:Nat) (H:Hp): ∀ (n:Nat) (s out:Bq) (e:Env),n≤1000→out.length+s.length*n≤1000000→s.length≤2000000→e.get 0= .d (.str s)→e.get 1= .d (.int .i64 n)→e.get 5= .d (.str out)→
  ∃e',Bg (Bp (ev R) R.glob n0 Bg Yn) [0,1,5] ⟨e,H⟩=some (.exit 0,⟨e',H⟩)∧e'.get 5= .d (.str (Bbt s n out)):=by
 intro n
 induction n using Nat.strongRecOn with
 |_ n ih=>
  intro s out e hn hl hsl h0 h1 h5
  by_cases hz:n=0
  ·subst hz
   rw[Bu]
   refine⟨?_, ?_, ?_⟩
   rotate_left
   ·simp[Cn,-List.getD_eq_getElem?_getD,-List.map_map,Yn,h0,h1,h5]
    rfl
   ·rw[Bbt]
    simp[Cn,-List.getD_eq_getElem?_getD,-List.map_map,h5]
  ·have c: (0:Int)< (n:Int):=by omega
   have c':0<n:=by omega
   have m2:IntKind.i64.wrap ((n:Int).tdiv 2)=((n / 2:Nat):Int):=by
    rw[Int.tdiv_eq_ediv_of_nonneg (by omega),IntWalk.i64_in _ (by omega)];omega
   have m3:IntKind.i64.wrap ((n:Int) / 2)=((n / 2:Nat):Int):=by
    rw[IntWalk.i64_in _ (by omega)];omega
   have hmul:s.length*(n / 2)*2≤s.length*n:=by
    rw[Nat.mul_assoc]
    exact Nat.mul_le_mul_left _ (by omega)
   have hmul1:s.length*1≤s.length*n:=Nat.mul_le_mul_left _ (by omega)
   have l2:s.length+s.length≤Kn:=by unfold Kn;omega
   have l3:out.length+s.length≤Kn:=by unfold Kn;omega
   have hd: (s++s).length*(n / 2)=s.length*(n / 2)*2:=by rw[List.length_append,Nat.add_mul];omega
   have hsq: (s++s).length≤2000000:=by rw[List.length_append];omega
   have hodd:s.length*n=s.length*(n / 2)*2+s.length*(n % 2):=by
    rw[Nat.mul_assoc,←Nat.mul_add]
    congr 1
    omega
   rw[Bu]
   have ih':=ih (n / 2) (by omega) (s++s) (if n % 2=1 then out++s else out)
   rw[Bbt,dif_neg hz]
   generalize Bbt (s++s) (n / 2) (if n % 2=1 then out++s else out)=M at ih'⊢
   generalize Bg (Bp (ev R) R.glob n0 Bg Yn) [0,1,5]=F at ih'⊢
   by_cases odd:n % 2=1
   ·have m1: (n:Int).tmod 2=1:=by rw[Int.tmod_eq_emod_of_nonneg (by omega)];omega
    rw[odd] at hodd
    simp only[odd,if_true] at ih'
    simp[Cn,-List.getD_eq_getElem?_getD,-List.map_map,Yn,h0,h1,h5,c,c',m1,m2,m3,l2,l3]
    refine ih' _ (by omega) ?_ hsq ?_ ?_ ?_
    ·rw[hd,List.length_append];omega
    all_goals rfl
   ·have m1: (n:Int).tmod 2=0:=by rw[Int.tmod_eq_emod_of_nonneg (by omega)];omega
    simp only[odd,if_false] at ih'
    simp[Cn,-List.getD_eq_getElem?_getD,-List.map_map,Yn,h0,h1,h5,c,c',m1,m2,m3,l2,l3]
    refine ih' _ (by omega) ?_ hsq ?_ ?_ ?_
    ·rw[hd];omega
    all_goals rfl
theorem B1e (H:Hp) (s:Bq) (n:Nat) (hn:n≤1000) (hs:s.length≤1000):ev R 197 [.d (.str s), .d (.int .i64 n)] H=some (.d (.str (Bbt s n [])),H):=by
 refine Bh (fn:=f197) rfl rfl ?_
 have hm:s.length*n≤1000*1000:=Nat.mul_le_mul hs hn
 obtain⟨e',he,h5⟩:=B1z (Bc H) H n s [] [(0, .d (.str s)),(1, .d (.int .i64 n)),(5, .d (.str []))] hn (by simp;omega) (by omega) rfl rfl rfl
 simp[Cn,-List.getD_eq_getElem?_getD,-List.map_map,f197,he,h5]
def Q9:List Bq:=[[],[97],[98],[99],[53],[45,51],[104,101,108,108,111],[13,10],[255],Bbt [120] 40 [],[57,57,57,57,57,57,57,57,57]]
def Uz (bs:List Int) (p:Int):Bq:=ofV bs p Q9
theorem Byd (H:Hp) (r:Nat) (bs:List Int) (p:Int) (h:Cf H r=some (rd bs p)) (hb:Dk bs) (hp:0≤p) (hp2:p≤1000000000000):ev R 160 [.ptr r 0 0 0] H=some (.d (.str (Uz bs p)),Bz H r (rd bs (p+1))):=by
 refine Bh (fn:=f160) rfl rfl ?_
 have q:=Bvw H r bs p Q9 h hb hp hp2 (by simp[Q9])
 have m:Be (ev R) 197 [.d (.str [120]), .d (.int .i64 40)]=some (.d (.str (Bbt [120] 40 []))):=Bb fun H=>B1e H [120] 40 (by omega) (by simp)
 unfold Uz
 simp only[Q9,Bf,List.map_cons,List.map_nil] at q⊢
 simp[Cn,-List.getD_eq_getElem?_getD,-List.map_map,f160,m,q,Lb]
theorem Bry (s:Bq) (n:Nat) (out:Bq): (Bbt s n out).length=out.length+s.length*n:=by
 induction n using Nat.strongRecOn generalizing s out with
 |_ n ih=>
  rw[Bbt]
  split
  ·rename_i h;subst h;simp
  ·rw[ih (n / 2) (by omega)]
   have hodd:s.length*n=s.length*(n / 2)*2+s.length*(n % 2):=by
    rw[Nat.mul_assoc,←Nat.mul_add]
    congr 1
    omega
   have hd: (s++s).length*(n / 2)=s.length*(n / 2)*2:=by rw[List.length_append,Nat.add_mul];omega
   rw[hd]
   split
   ·rename_i h;rw[h] at hodd;rw[List.length_append];omega
   ·rename_i h;have:n % 2=0:=by omega
    rw[this] at hodd;omega
theorem Bai (bs:List Int) (p:Int) (xs:List Bq) (m:Nat) (h: ∀x∈xs,x.length≤m): (ofV bs p xs).length≤m:=by
 unfold ofV
 by_cases hi: (Dc bs p xs.length).toNat<xs.length
 ·rw[List.getD_eq_getElem?_getD,List.getElem?_eq_getElem hi]
  exact h _ (List.getElem_mem hi)
 ·rw[List.getD_eq_getElem?_getD,List.getElem?_eq_none (by omega)]
  exact Nat.zero_le _
theorem Bem (bs:List Int) (p:Int): (Uz bs p).length≤40:=by
 refine Bai bs p Q9 40 fun x hx=> ?_
 have hm:=Bry [120] 40 []
 simp only[Q9,List.mem_cons,List.not_mem_nil,or_false] at hx
 rcases hx with rfl|rfl|rfl|rfl|rfl|rfl|rfl|rfl|rfl|rfl|rfl<;>first| (rw[hm];simp) |simp
def Lr (bs:List Int):List Int:=bs.take 2000
theorem Boo (bs:List Int) (h: ∀i,0≤bs.getD i 0∧bs.getD i 0≤255):Dk (Lr bs):=by
 refine⟨by simp[Lr];omega,fun i=> ?_⟩
 by_cases hi:i<2000
 ·have: (Lr bs).getD i 0=bs.getD i 0:=by simp[Lr,List.getD_eq_getElem?_getD,List.getElem?_take,hi]
  rw[this];exact h i
 ·have: (Lr bs).getD i 0=0:=by simp[Lr,List.getD_eq_getElem?_getD,List.getElem?_take,hi]
  rw[this];omega
theorem B58 (H:Hp) (bs:List Int):ev R 20 [.d (Sb bs)] H=some (.ptr (Bc H) 0 0 0,Bt H (rd (Lr bs) 0)):=by
 refine Bh (fn:=f20) rfl rfl ?_
 by_cases hb:2000< (bs.length:Int)
 ·have h1:2000≤bs.length:=by omega
  have h2: (2000:Int)≤bs.length:=by omega
  simp[Cn,-List.getD_eq_getElem?_getD,-List.map_map,f20,hb,h1,h2,Da,Qw,Bej,rd,Lr,Uq]
  simp only[Sb,List.map_take]
 ·have h1: ¬2000<bs.length:=by omega
  have e:bs.take 2000=bs:=List.take_of_length_le (by omega)
  simp[Cn,-List.getD_eq_getElem?_getD,-List.map_map,f20,hb,h1,Qw,Bej,rd,Lr,e,Uq]
def Sd (n:Nat):Bq:=if h:n<10 then[UInt8.ofNat (48+n)] else Sd (n / 10)++[UInt8.ofNat (48+n % 10)]
termination_by n
decreasing_by omega
theorem Bgi (n:Nat): (Sd n).length≤n+1:=by
 induction n using Nat.strongRecOn with
 |_ n ih=>
  rw[Sd]
  split
  ·simp
  ·have:=ih (n / 10) (by omega)
   rw[List.length_append]
   simp only[List.length_singleton]
   omega
theorem B1t (n:Nat): ∀ (H:Hp),n≤1000000000→ev R 68 [.d (.int .i64 n)] H=some (.d (.str (Sd n)),H):=by
 induction n using Nat.strongRecOn with
 |_ n ih=>
  intro H hn
  refine Bh (fn:=f68) rfl rfl ?_
  have c1: ¬ (n:Int)< -9223372036854775807:=by omega
  have c2: ¬ (n:Int)<0:=by omega
  by_cases c3:n<10
  ·have c3': (n:Int)<10:=by omega
   have w1:IntKind.i64.wrap (48+(n:Int))=48+n:=IntWalk.i64_in _ (by omega)
   have w2:IntKind.u8.wrap (48+(n:Int))=48+n:=IntWalk.u8_in _ (by omega)
   have t: (48+(n:Int)).toNat=48+n:=by omega
   rw[Sd,dif_pos c3]
   simp[Cn,-List.getD_eq_getElem?_getD,-List.map_map,f68,c1,c2,c3,c3',w1,w2,t,Ry,Zv]
  ·have c3': ¬ (n:Int)<10:=by omega
   have q:Be (ev R) 68 [.d (.int .i64 ((n / 10:Nat):Int))]=some (.d (.str (Sd (n / 10)))):=Bb fun H=>ih (n / 10) (by omega) H (by omega)
   obtain⟨k,hk⟩: ∃k:Int,((n / 10:Nat):Int)=k:=⟨_,rfl⟩
   obtain⟨d,hd⟩: ∃d:Int,(n:Int).tmod 10=d:=⟨_,rfl⟩
   have hd':d=((n % 10:Nat):Int):=by rw[←hd,Int.tmod_eq_emod_of_nonneg (by omega)];omega
   rw[hk] at q
   have w0:IntKind.i64.wrap ((n:Int).tdiv 10)=k:=by rw[Int.tdiv_eq_ediv_of_nonneg (by omega),IntWalk.i64_in _ (by omega)];omega
   have w0':IntKind.i64.wrap ((n:Int) / 10)=k:=by rw[IntWalk.i64_in _ (by omega)];omega
   have hd2: (n:Int) % 10=d:=by omega
   have w1:IntKind.i64.wrap (48+d)=48+d:=IntWalk.i64_in _ (by omega)
   have w2:IntKind.u8.wrap (48+d)=48+d:=IntWalk.u8_in _ (by omega)
   have t: (48+d).toNat=48+n % 10:=by omega
   have hl:=Bgi (n / 10)
   have l: (Sd (n / 10)).length+1≤Kn:=by unfold Kn;omega
   rw[Sd,dif_neg c3]
   simp[Cn,-List.getD_eq_getElem?_getD,-List.map_map,f68,c1,c2,c3,c3',q,w0,w0',hd,hd2,w1,w2,t,l,Ry,Zv]
def F3 (bs:List Int):Nat→Int→List Bq
 |0,_=> []
 |n+1,p=>Uz bs p::F3 bs n (p+1)
theorem Le (bs:List Int): ∀ (n:Nat) (p:Int),(F3 bs n p).length=n
 |0,_=>rfl
 |n+1,p=>by simp[F3,Le bs n (p+1)]
def J3 (k:Nat) (ts:List Bq):Ev.Obj:= .row k 1 ((ts.map D.str).map V.d)
theorem Bg1 {H:Hp} {r:Nat} {o:Ev.Obj} {bs:List Int} {p:Int} (h:Cf H r=some (rd bs p)) (q:Int):Cf (Bt (Bz H r (rd bs q)) o) r=some (rd bs q):=by
 have hl:=D6 h
 rw[Dz _ (by rw[Br];exact hl),Co _ hl]
theorem Bcj {H:Hp} {k:Nat} {ts:List Bq} {n:Nat} (hn:n=Bc H):Cw (Bt H (J3 k ts)) n k=some (1,(ts.map D.str).map V.d):=by
 subst hn;exact Cy _ _ _ _
theorem Bsv {H:Hp} {k:Nat} {ts:List Bq} {t:Bq} {n:Nat} (hn:n=Bc H) (o:Ev.Obj):Bz (Bt H o) n (.row k 1 ((ts.map D.str).map V.d++[.d (.str t)]))=Bt H (J3 k (ts++[t])):=by
 subst hn
 rw[Qx]
 simp[J3]
theorem Byn (n0:Nat) (H:Hp) (r:Nat) (bs:List Int) (p0:Int) (h:Cf H r=some (rd bs p0)) (hb:Dk bs): ∀ (n k:Nat) (ts:List Bq) (p:Int) (e:Env),n≤1000→ts.length+n≤1000000→0≤p→p+n≤1000000000000→e.get 0= .ptr r 0 0 0→e.get 5= .slc (Bc H) k 0 ts.length→e.get 6= .d (.int .i64 n)→
  ∃e',Bg (Bp (ev R) R.glob n0 Bg Ba4) [0,5,6] ⟨e,Bt (Bz H r (rd bs p)) (J3 k ts)⟩=some (.exit 0,⟨e',Bt (Bz H r (rd bs (p+n))) (J3 (k+n) (ts++F3 bs n p))⟩)∧e'.get 5= .slc (Bc H) (k+n) 0 (ts.length+n)
 |0,k,ts,p,e,hn,hl,hp,hp2,h0,h5,h6=>by
  rw[Bu]
  refine⟨?_, ?_, ?_⟩
  rotate_left
  ·simp[Cn,-List.getD_eq_getElem?_getD,-List.map_map,Ba4,h0,h5,h6,F3]
   rfl
  ·simp[Cn,-List.getD_eq_getElem?_getD,-List.map_map,h5]
 |n+1,k,ts,p,e,hn,hl,hp,hp2,h0,h5,h6=>by
  have c: (0:Int)< ((n+1:Nat):Int):=by omega
  have w1:IntKind.i64.wrap (((n+1:Nat):Int) - 1)=(n:Int):=by rw[IntWalk.i64_in _ (by omega)];omega
  obtain⟨m,hm⟩: ∃m:Int,((n+1:Nat):Int)=m:=⟨_,rfl⟩
  rw[hm] at c w1 h6
  have hg:=Bg1 (o:=J3 k ts) h p
  have q:=Byd (Bt (Bz H r (rd bs p)) (J3 k ts)) r bs p hg hb hp (by omega)
  have hl2:Bc H=Bc (Bz H r (rd bs (p+1))):=(Br _ _ _).symm
  have hlt:=D6 h
  have e1:Bz (Bt (Bz H r (rd bs p)) (J3 k ts)) r (rd bs (p+1))=Bt (Bz H r (rd bs (p+1))) (J3 k ts):=by
   rw[Np (by rw[Br];exact hlt),Ky]
  rw[e1] at q
  have q2:=Bcj (k:=k) (ts:=ts) hl2
  have q3:=Bsv (k:=k+1) (ts:=ts) (t:=Uz bs p) hl2 (J3 k ts)
  have rm: (ts.length+1)*16≤Cq:=by unfold Cq;omega
  have ih:=Byn n0 H r bs p0 h hb n (k+1) (ts++[Uz bs p]) (p+1)
  have r1:p+((n+1:Nat):Int)=p+1+n:=by omega
  have r2:k+(n+1)=k+1+n:=by omega
  have r3:ts++F3 bs (n+1) p=(ts++[Uz bs p])++F3 bs n (p+1):=by simp[F3]
  have r4:ts.length+(n+1)=(ts++[Uz bs p]).length+n:=by simp;omega
  rw[r1,r2,r3,r4]
  generalize Bt (Bz H r (rd bs (p+1+(n:Int)))) (J3 (k+1+n) (ts++[Uz bs p]++F3 bs n (p+1)))=HX at ih⊢
  generalize hL: (ts++[Uz bs p]).length=L at ih⊢
  have hL':L=ts.length+1:=by rw[←hL];simp
  generalize k+1+n=K at ih⊢
  rw[Bu]
  generalize Bg (Bp (ev R) R.glob n0 Bg Ba4) [0,5,6]=F at ih⊢
  subst hL'
  simp[Cn,-List.getD_eq_getElem?_getD,-List.map_map,Ba4,h0,h5,h6,c,w1,q,q2,q3,rm,Ry]
  refine ih _ (by omega) (by omega) (by omega) (by omega) ?_ ?_ ?_<;>rfl
theorem Bar: ∀ (ds:List D),Gt (ds.map V.d)=some ds
 | []=>rfl
 |d::ds=>by simp only[List.map_cons,Gt,Bar ds]
theorem B1a (H:Hp) (r:Nat) (bs:List Int) (p most:Int) (h:Cf H r=some (rd bs p)) (hb:Dk bs) (hp:0≤p) (hp2:p≤100000000000) (hm:0≤most∧most≤900):
  ev R 162 [.ptr r 0 0 0, .d (.int .i64 most)] H=some (.slc (Bc H) 0 0 (Dc bs p (most+1)).toNat,Bt (Bz H r (rd bs (p+1+(Dc bs p (most+1)).toNat))) (J3 0 (F3 bs (Dc bs p (most+1)).toNat (p+1)))):=by
 refine Bh (fn:=f162) rfl rfl ?_
 obtain⟨k0,k1⟩:=Jj bs p (most+1) hb hp (by omega)
 have k1:=k1 (by omega)
 have w:IntKind.i64.wrap (most+1)=most+1:=IntWalk.i64_in _ (by omega)
 have hlt:=D6 h
 have hg:Cf (Bt H (.row 0 1 [])) r=some (rd bs p):=by rw[Dz _ hlt];exact h
 have q:=Brf (Bt H (.row 0 1 [])) r bs p (most+1) hg hb hp (by omega)
 rw[Np hlt] at q
 obtain⟨N,hN⟩: ∃N,(Dc bs p (most+1)).toNat=N:=⟨_,rfl⟩
 have hN':Dc bs p (most+1)=(N:Int):=by omega
 rw[hN]
 rw[hN'] at q
 obtain⟨e',he,h5⟩:=Byn (Bc H) H r bs p h hb N 0 [] (p+1) [(0, .ptr r 0 0 0),(5, .slc (Bc H) 0 0 0),(6, .d (.int .i64 N))] (by omega) (by simp;omega) (by omega) (by omega) rfl rfl rfl
 have hl2:Bc H=Bc (Bz H r (rd bs (p+1+(N:Int)))):=(Br _ _ _).symm
 have ht:Cx (Bt (Bz H r (rd bs (p+1+(N:Int)))) (J3 (0+N) ([]++F3 bs N (p+1)))) (Bc H)=Bz H r (rd bs (p+1+(N:Int))):=by
  rw[hl2];exact Fa _ _
 have hr:=Bcj (H:=Bz H r (rd bs (p+1+(N:Int)))) (k:=0+N) (ts:=[]++F3 bs N (p+1)) hl2
 have e0:J3 0 []= .row 0 1 []:=rfl
 rw[e0] at he
 have a:=Bar ((([]:List Bq)++F3 bs N (p+1)).map D.str)
 have hfin:Bt (Bz H r (rd bs (p+1+(N:Int)))) (.row 0 1 (((([]:List Bq)++F3 bs N (p+1)).map D.str).map V.d))=Bt (Bz H r (rd bs (p+1+(N:Int)))) (J3 0 (F3 bs N (p+1))):=rfl
 rw[←hfin]
 generalize Bz H r (rd bs (p+1+(N:Int)))=X at he hl2 ht hr⊢
 generalize((([]:List Bq)++F3 bs N (p+1)).map D.str).map V.d=xs at a hr⊢
 generalize J3 (0+N) ([]++F3 bs N (p+1))=o at he ht hr
 have nl: ¬Bc H<Bc H:=by omega
 have len: ([]:List Bq).length+N=N:=by simp
 rw[len] at h5
 simp only[List.length_nil,Nat.zero_add] at hr h5⊢
 have hl3:=hl2.symm
 simp[Cn,-List.getD_eq_getElem?_getD,-List.map_map,f162,w,q,he,h5,ht,hr,a,nl,hl3,Uq]
end Go.Proofs.YtpajcoanfkeibaaGreatDoor.Code
namespace Go.Proofs.YtpajcoanfkeibaaGreatDoor.Code
open Go Go.Ev
inductive Res (α:Type) where
 |ok (a:α) (r:Bq)
 |short
 |bad
def Res.bind {α β:Type} (x:Res α) (f:α→Bq→Res β):Res β:=
 match x with
 | .ok a r=>f a r
 | .short=> .short
 | .bad=> .bad
def Bmx (b:UInt8):Bq→Res Unit
 | []=> .short
 |c::r=>if c=b then .ok () r else .bad
def Bbi (c:UInt8):Bool:=decide (48≤c.toNat) &&decide (c.toNat≤57)
def Bzl (n:Int) (c:UInt8):Int:=10*n+((c.toNat:Int) - 48)
def Bop (low high:Int):Bq→Int→Bool→Res Int
 | [],_,_=> .short
 |c::r,n,first=>
  if Bbi c=true then
   if first=false∧n=0 then .bad
   else if low≤Bzl n c∧Bzl n c≤high then Bop low high r (Bzl n c) false else .bad
  else if first=true then .bad
  else if c=13 then(Bmx 10 r).bind fun _ r'=> .ok n r' else .bad
def B4i (mark:UInt8) (low high:Int) (t:Bq):Res Int:=(Bmx mark t).bind fun _ r=>Bop low high r 0 true
def B4j (n:Nat) (t:Bq):Res Bq:=if t.length<n then .short else .ok (t.take n) (t.drop n)
def B8d {α:Type} (x:α) (t:Bq):Res α:=(Bmx 13 t).bind fun _ r=> (Bmx 10 r).bind fun _ r'=> .ok x r'
def B4h (t:Bq):Res Bq:=(B4i 36 0 40 t).bind fun n r=> (B4j n.toNat r).bind fun x r'=>B8d x r'
def Br4:Nat→Bq→Res (List Bq)
 |0,t=> .ok [] t
 |n+1,t=> (B4h t).bind fun x r=> (Br4 n r).bind fun xs r'=> .ok (x::xs) r'
def Bzy (t:Bq):Res (List Bq):=(B4i 42 1 8 t).bind fun n r=>Br4 n.toNat r
structure Good {α:Type} (P:Bq→Res α):Prop where
 ok: ∀t x r,P t= .ok x r→∃u,t=u++r∧∀r',P (u++r')= .ok x r'
 bad: ∀t t',P t= .bad→P (t++t')= .bad
theorem Good.bind {α β:Type} {P:Bq→Res α} {Q:α→Bq→Res β} (h:Good P) (k: ∀x,Good (Q x)):Good fun t=> (P t).bind Q:=by
 constructor
 ·intro t x r e0
  have e: (P t).bind Q= .ok x r:=e0
  clear e0
  cases hp:P t with
  |short=>rw[hp] at e;simp[Res.bind] at e
  |bad=>rw[hp] at e;simp[Res.bind] at e
  |ok y r1=>
   rw[hp] at e
   simp only[Res.bind] at e
   obtain⟨u1,rfl,h1⟩:=h.ok t y r1 hp
   obtain⟨u2,rfl,h2⟩:=(k y).ok r1 x r e
   refine⟨u1++u2,by rw[List.append_assoc],fun r'=> ?_⟩
   simp only[List.append_assoc,h1,Res.bind,h2]
 ·intro t t' e0
  have e: (P t).bind Q= .bad:=e0
  clear e0
  show(P (t++t')).bind Q= .bad
  cases hp:P t with
  |short=>rw[hp] at e;simp[Res.bind] at e
  |bad=>rw[h.bad t t' hp];rfl
  |ok y r1=>
   rw[hp] at e
   simp only[Res.bind] at e
   obtain⟨u1,rfl,h1⟩:=h.ok t y r1 hp
   rw[List.append_assoc,h1]
   exact(k y).bad r1 t' e
theorem Good.pure {α:Type} (x:α):Good fun t=>Res.ok x t:=
 ⟨fun t y r e=> (by cases e;exact⟨[],rfl,fun _=>rfl⟩),fun t t' e=> (by cases e)⟩
def Um (t:Bq):List Bq:=
 match Bzy t with
 | .ok x _=>x
 | .short=> []
 | .bad=> []
def Z4:Bq→Nat→Int→Option Int
 | [],_,n=>some n
 |c::r,i,n=>if Bbi c=true then Z4 r (i+1) (if i<10 then n*10+((c.toNat:Int) - 48) else n) else none
def Z5 (s:Bq):Int:=
 match Z4 s 0 0 with
 |none=> -1
 |some n=>if s.length<1∨10<s.length∨(1<s.length∧s.getD 0 0=48) then -1 else n
theorem Bzm {c:UInt8} (h:Bbi c=true):48≤c.toNat∧c.toNat≤57:=by
 simpa[Bbi] using h
def Bmu (xs:List Bq):Prop:=(∀x∈xs,x.length≤40)∧1≤xs.length∧xs.length≤8
end Go.Proofs.YtpajcoanfkeibaaGreatDoor.Code
namespace Go.Proofs.YtpajcoanfkeibaaGreatDoor.Code
open Go Go.Ev Go.Proofs
theorem B5m (a b:UInt8): ((a.toNat:Int)=(b.toNat:Int))↔a=b:=by
 constructor
 ·intro h;exact UInt8.toNat_inj.1 (by omega)
 ·rintro rfl;rfl
structure Stop (low high:Int) (s:Bq) (k n0:Nat) (n:Int) (k1:Nat) (n1:Int) (sh bd:Bool):Prop where
 le:k1≤s.length
 ge:n0≤k1
 say: (sh=false∧bd=false∧(∃c t,s.drop k1=c::t∧Bbi c=false)∧Bop low high (s.drop k) n (decide (k=n0))=Bop low high (s.drop k1) n1 (decide (k1=n0)))∨(sh=true∧bd=false∧Bop low high (s.drop k) n (decide (k=n0))= .short)∨(sh=false∧bd=true∧Bop low high (s.drop k) n (decide (k=n0))= .bad)
theorem Bn4 {s:Bq} {k:Nat} (hk:k<s.length):s.drop k=s.getD k 0::s.drop (k+1):=by
 rw[List.getD_eq_getElem?_getD,List.getElem?_eq_getElem hk]
 exact List.drop_eq_getElem_cons hk
theorem Brw (n0:Nat) (s:Bq) (hs:s.length≤1000000000000) (H:Hp): ∀ (m i:Nat) (n:Int) (e:Env),i+m=s.length→0≤n→n<10 ^ (min i 10)→e.get 0= .d (.str s)→e.get 3= .d (.int .i64 n)→e.get 4= .d (.int .i64 i)→
  ∃e',Bg (Bp (ev R) R.glob n0 Bg Rj) [0,3,4] ⟨e,H⟩=some ((match Z4 (s.drop i) i n with|none=> .ret|some _=> .exit 0),⟨e',H⟩)∧
   (Z4 (s.drop i) i n=none→e'.get 2= .d (.int .i64 (-1)))∧(∀v,Z4 (s.drop i) i n=some v→e'.get 0= .d (.str s)∧e'.get 3= .d (.int .i64 v))
 |0,i,n,e,hi,hn,hn2,h0,h3,h4=>by
  have c: ¬ (i:Int)< (s.length:Int):=by omega
  have c': ¬i<s.length:=by omega
  rw[List.drop_of_length_le (by omega),Bu]
  refine⟨?_, ?_, ?_, ?_⟩
  rotate_left
  ·simp[Cn,-List.getD_eq_getElem?_getD,-List.map_map,Rj,h0,h3,h4,c,c',Z4]
   try rfl
  ·intro h;simp[Z4] at h
  ·intro v h
   simp only[Z4,Option.some.injEq] at h
   subst h
   constructor
   ·simp[Cn,-List.getD_eq_getElem?_getD,-List.map_map,h0]
   ·simp[Cn,-List.getD_eq_getElem?_getD,-List.map_map,h3]
 |m+1,i,n,e,hi,hn,hn2,h0,h3,h4=>by
  have hil:i<s.length:=by omega
  have c: (i:Int)< (s.length:Int):=by omega
  have hd:=Bn4 hil
  obtain⟨b,hb⟩: ∃b,s.getD i 0=b:=⟨_,rfl⟩
  rw[hb] at hd
  have b255:=b.toNat_lt
  have w1:IntKind.i64.wrap ((i:Int)+1)=((i+1:Nat):Int):=by rw[IntWalk.i64_in _ (by omega)];rfl
  rw[hd]
  simp only[Z4]
  cases g:Bbi b with
  |false=>
   simp only[Bool.false_eq_true,if_false]
   rw[Bu]
   refine⟨?_, ?_, ?_, ?_⟩
   rotate_left
   ·by_cases d1: (b.toNat:Int)<48
    ·simp[Cn,-List.getD_eq_getElem?_getD,-List.map_map,Rj,h0,h3,h4,c,hil,hb,d1]
     try rfl
    ·have d2:57< (b.toNat:Int):=by
      simp only[Bbi,Bool.and_eq_false_iff,decide_eq_false_iff_not] at g
      omega
     simp[Cn,-List.getD_eq_getElem?_getD,-List.map_map,Rj,h0,h3,h4,c,hil,hb,d1,d2]
     try rfl
   ·intro _;simp[Cn,-List.getD_eq_getElem?_getD,-List.map_map]
   ·intro v h;simp at h
  |true=>
   have bb:=Bzm g
   have d1: ¬ (b.toNat:Int)<48:=by omega
   have d2: ¬57< (b.toNat:Int):=by omega
   simp only[if_true]
   by_cases ten:i<10
   ·have ten': (i:Int)<10:=by omega
    have m1:min i 10=i:=by omega
    have m2:min (i+1) 10=i+1:=by omega
    rw[m1] at hn2
    have pw: (10:Int) ^ (i+1)=10 ^ i*10:=Int.pow_succ ..
    have p9: (10:Int) ^ i≤1000000000:=by
     have: (10:Nat) ^ i≤10 ^ 9:=Nat.pow_le_pow_right (by omega) (by omega)
     have e: ((10 ^ i:Nat):Int)=(10:Int) ^ i:=by simp
     omega
    have w2:IntKind.i64.wrap (n*10)=n*10:=IntWalk.i64_in _ (by omega)
    have w3:IntKind.u8.wrap ((b.toNat:Int) - 48)=(b.toNat:Int) - 48:=IntWalk.u8_in _ (by omega)
    have w4:IntKind.i64.wrap ((b.toNat:Int) - 48)=(b.toNat:Int) - 48:=IntWalk.i64_in _ (by omega)
    have w5:IntKind.i64.wrap (n*10+((b.toNat:Int) - 48))=n*10+((b.toNat:Int) - 48):=IntWalk.i64_in _ (by omega)
    have ih:=Brw n0 s hs H m (i+1) (n*10+((b.toNat:Int) - 48))
    rw[m2,pw] at ih
    rw[if_pos ten]
    generalize Z4 (s.drop (i+1)) (i+1) (n*10+((b.toNat:Int) - 48))=FL at ih⊢
    obtain⟨x,hx⟩: ∃x,n*10+((b.toNat:Int) - 48)=x:=⟨_,rfl⟩
    rw[hx] at ih
    have w5:=w5.trans hx
    rw[Bu]
    generalize Bg (Bp (ev R) R.glob n0 Bg Rj) [0,3,4]=F at ih⊢
    simp[Cn,-List.getD_eq_getElem?_getD,-List.map_map,Rj,h0,h3,h4,c,hil,hb,d1,d2,ten,ten',w1,w2,w3,w4,w5]
    refine ih _ (by omega) (by omega) (by omega) ?_ ?_ ?_<;>rfl
   ·have ten': ¬ (i:Int)<10:=by omega
    have m1:min i 10=10:=by omega
    have m2:min (i+1) 10=10:=by omega
    rw[m1] at hn2
    have ih:=Brw n0 s hs H m (i+1) n
    rw[m2] at ih
    rw[if_neg ten]
    generalize Z4 (s.drop (i+1)) (i+1) n=FL at ih⊢
    rw[Bu]
    generalize Bg (Bp (ev R) R.glob n0 Bg Rj) [0,3,4]=F at ih⊢
    simp[Cn,-List.getD_eq_getElem?_getD,-List.map_map,Rj,h0,h3,h4,c,hil,hb,d1,d2,ten,ten',w1]
    refine ih _ (by omega) (by omega) (by omega) ?_ ?_ ?_<;>rfl
theorem Byg (H:Hp) (s:Bq) (hs:s.length≤1000000000000):ev R 253 [.d (.str s)] H=some (.d (.int .i64 (Z5 s)),H):=by
 refine Bh (fn:=f253) rfl rfl ?_
 obtain⟨e',he,h1,h2⟩:=Brw (Bc H) s hs H s.length 0 0 [(0, .d (.str s)),(3, .d (.int .i64 0)),(4, .d (.int .i64 0))] (by omega) (by omega) (by simp) rfl rfl rfl
 simp only[List.drop_zero] at he h1 h2
 unfold Z5
 cases hr:Z4 s 0 0 with
 |none=>
  simp only[hr] at he
  simp[Cn,-List.getD_eq_getElem?_getD,-List.map_map,f253,he,h1 hr]
 |some v=>
  simp only[hr] at he
  obtain⟨g0,g3⟩:=h2 v hr
  have p:=Ps (s.length:Int) 1 10
  by_cases c1:s.length<1
  ·have q: (decide ((s.length:Int)≥1) &&decide ((s.length:Int)≤10))=false:=by simp;omega
   rw[q] at p
   simp[Cn,-List.getD_eq_getElem?_getD,-List.map_map,f253,he,g0,g3,p,c1]
  ·by_cases c2:10<s.length
   ·have q: (decide ((s.length:Int)≥1) &&decide ((s.length:Int)≤10))=false:=by simp;omega
    rw[q] at p
    simp[Cn,-List.getD_eq_getElem?_getD,-List.map_map,f253,he,g0,g3,p,c1,c2]
   ·have q: (decide ((s.length:Int)≥1) &&decide ((s.length:Int)≤10))=true:=by simp;omega
    rw[q] at p
    have k0:0<s.length:=by omega
    have k0': (0:Int)< (s.length:Int):=by omega
    by_cases c3:1<s.length
    ·have c3': (1:Int)< (s.length:Int):=by omega
     have u: ((s.getD 0 0).toNat:Int)=48↔s.getD 0 0=48:=B5m _ 48
     by_cases c4:s.getD 0 0=48
     ·simp[Cn,-List.getD_eq_getElem?_getD,-List.map_map,f253,he,g0,g3,p,c1,c2,c3,c3',k0,k0',c4]
     ·have c4': ¬ ((s.getD 0 0).toNat:Int)=48:=fun h=>c4 (u.1 h)
      simp[Cn,-List.getD_eq_getElem?_getD,-List.map_map,f253,he,g0,g3,p,c1,c2,c3,c3',k0,k0',c4,c4']
    ·have c3': ¬ (1:Int)< (s.length:Int):=by omega
     simp[Cn,-List.getD_eq_getElem?_getD,-List.map_map,f253,he,g0,g3,p,c1,c2,c3,c3',k0,k0']
def Dx (s:Bq):Int×Bool:=
 if 1<s.length∧s.getD 0 0=45 then(if 1≤Z5 (s.drop 1)∧Z5 (s.drop 1)≤1000000000 then(-Z5 (s.drop 1),true) else(0,false))
 else(if 0≤Z5 s∧Z5 s≤1000000000 then(Z5 s,true) else(0,false))
theorem B1f (H:Hp) (s:Bq) (hs:s.length≤1000000000000):ev R 203 [.d (.str s)] H=some (.tup [.d (.int .i64 (Dx s).1), .d (.bool (Dx s).2)],H):=by
 refine Bh (fn:=f203) rfl rfl ?_
 have q:=Ps (Z5 s) 0 1000000000
 have q1:=Ps (Z5 (s.drop 1)) 1 1000000000
 have p:=Bb (cl:=ev R) fun H=>Byg H s hs
 have p1:=Bb (cl:=ev R) fun H=>Byg H (s.drop 1) (by simp;omega)
 rw[List.drop_one] at p1 q1
 unfold Dx
 rw[List.drop_one]
 generalize Z5 s.tail=f1 at q1 p1⊢
 generalize Z5 s=f at q p⊢
 have tl:s.take s.length=s:=List.take_length
 obtain⟨b,hb⟩: ∃b,s.getD 0 0=b:=⟨_,rfl⟩
 by_cases c:1<s.length
 ·have c': (1:Int)< (s.length:Int):=by omega
  have c0: (0:Int)< (s.length:Int):=by omega
  have c1: (1:Int)≤(s.length:Int):=by omega
  have c2:0<s.length:=by omega
  have c3:1≤s.length:=by omega
  have c4:s≠[]:=by rintro rfl;simp at c
  by_cases d:b=45
  ·subst d
   by_cases e1:1≤f1
   ·by_cases e2:f1≤1000000000
    ·have w:IntKind.i64.wrap (-f1)= -f1:=IntWalk.i64_in _ (by omega)
     simp[Cn,-List.getD_eq_getElem?_getD,-List.map_map,f203,c,c',c0,c1,c2,c3,c4,hb,Da,q1,p1,e1,e2,w]
    ·simp[Cn,-List.getD_eq_getElem?_getD,-List.map_map,f203,c,c',c0,c1,c2,c3,c4,hb,Da,q1,p1,e1,e2]
   ·simp[Cn,-List.getD_eq_getElem?_getD,-List.map_map,f203,c,c',c0,c1,c2,c3,c4,hb,Da,q1,p1,e1]
  ·have d': ¬ ((b.toNat:Nat):Int)=45:=fun h=>d (UInt8.toNat_inj.1 (by rw[show(45:UInt8).toNat=45 from rfl];omega))
   have d'': ¬b.toNat=45:=fun h=>d' (by omega)
   by_cases e1:0≤f
   ·by_cases e2:f≤1000000000
    ·simp[Cn,-List.getD_eq_getElem?_getD,-List.map_map,f203,c,c',c0,c1,c2,c3,c4,hb,Da,q,p,e1,e2,d,d',d'']
    ·simp[Cn,-List.getD_eq_getElem?_getD,-List.map_map,f203,c,c',c0,c1,c2,c3,c4,hb,Da,q,p,e1,e2,d,d',d'']
   ·simp[Cn,-List.getD_eq_getElem?_getD,-List.map_map,f203,c,c',c0,c1,c2,c3,c4,hb,Da,q,p,e1,d,d',d'']
 ·have c': ¬ (1:Int)< (s.length:Int):=by omega
  by_cases e1:0≤f
  ·by_cases e2:f≤1000000000
   ·simp[Cn,-List.getD_eq_getElem?_getD,-List.map_map,f203,c,c',q,p,e1,e2]
   ·simp[Cn,-List.getD_eq_getElem?_getD,-List.map_map,f203,c,c',q,p,e1,e2]
  ·simp[Cn,-List.getD_eq_getElem?_getD,-List.map_map,f203,c,c',q,p,e1]
def Qu (z:Int):Bq:=if z<0 then 45::Sd z.natAbs else Sd z.toNat
theorem B1u (H:Hp) (z:Int) (h: -1000000000≤z∧z≤1000000000):ev R 68 [.d (.int .i64 z)] H=some (.d (.str (Qu z)),H):=by
 unfold Qu
 by_cases c:z<0
 ·rw[if_pos c]
  refine Bh (fn:=f68) rfl rfl ?_
  obtain⟨n,hn⟩: ∃n:Nat,z.natAbs=n:=⟨_,rfl⟩
  have hz: -z=(n:Int):=by omega
  have c1: ¬z< -9223372036854775807:=by omega
  have w:IntKind.i64.wrap (-z)=(n:Int):=by rw[IntWalk.i64_in _ (by omega)];exact hz
  have p:=Bb (cl:=ev R) fun H=>B1t n H (by omega)
  have dl:=Bgi n
  have l:1+(Sd n).length≤Kn:=by unfold Kn;omega
  rw[hn]
  generalize Sd n=x at*
  generalize(n:Int)=N at*
  simp[Cn,-List.getD_eq_getElem?_getD,-List.map_map,f68,c,c1,w,p,l]
 ·rw[if_neg c]
  obtain⟨n,rfl⟩:=Int.eq_ofNat_of_zero_le (show 0≤z by omega)
  exact B1t n H (by omega)
end Go.Proofs.YtpajcoanfkeibaaGreatDoor.Code
