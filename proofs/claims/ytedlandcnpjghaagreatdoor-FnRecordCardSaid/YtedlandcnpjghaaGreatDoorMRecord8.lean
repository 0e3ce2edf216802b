/- Lemmas (several texts in one). -/
import Derived.Test.YtedlandcnpjghaaGreatDoorMRecord4
import Derived.Test.YtedlandcnpjghaaGreatDoorMRecord5
import Derived.Test.YtedlandcnpjghaaGreatDoorMRecord6
import Derived.Test.YtedlandcnpjghaaGreatDoorMRecord7
set_option maxRecDepth 100000
set_option linter.unusedSimpArgs false
set_option linter.unusedVariables false
namespace Go.Proofs.YtedlandcnpjghaaGreatDoor.Code
open Go Go.Ev Go.Proofs
abbrev Pb (bs:List Int):D:= .vals 1 (bs.map (.int .u8))
def rd (bs:List Int) (p:Int):Ev.Obj:= .row 0 2 [.d (.agg [Pb bs, .int .i64 p])]
theorem Y8 {H:Hp} {r:Nat} {bs:List Int} {p:Int} (h:Ci H r=some (rd bs p)):Ct H r 0=some (2,[.d (.agg [Pb bs, .int .i64 p])]):=by
 simp[Ct,h,rd]
theorem Bsn {H:Hp} {r:Nat} {bs:List Int} {p:Int} (h:Ci H r=some (rd bs p)):Gh H r 0 0 0 1=some [.d (Pb bs)]:=by
 simp[Gh,Y8 h,V.cells]
theorem Bio {H:Hp} {r:Nat} {bs:List Int} {p:Int} (h:Ci H r=some (rd bs p)):Gh H r 0 0 1 1=some [.d (.int .i64 p)]:=by
 simp[Gh,Y8 h,V.cells]
theorem Bso {H:Hp} {r:Nat} {bs:List Int} {p q:Int} (h:Ci H r=some (rd bs p)):Me H r 0 0 1 [.d (.int .i64 q)]=some (Bv H r (rd bs q)):=by
 simp[Me,Y8 h,V.cells,Pp,V.isAgg,M4,Gi,rd]
theorem Lb {H:Hp} {r:Nat} {o:Ev.Obj} :Du (Bv H r o) (Bc H)=Bv H r o:=by
 have:=Lc (Bv H r o)
 rwa[Br] at this
def Dl (bs:List Int):Prop:=bs.length≤2000∧∀i,0≤bs.getD i 0∧bs.getD i 0≤255
theorem Yo (bs:List Int) (i:Nat) (hi:i<bs.length): (bs.map (D.int .u8)).getD i .nilp= .int .u8 (bs.getD i 0):=by
 simp[List.getD_eq_getElem?_getD,hi]
theorem Bt9 (x y:Int) (hx:0≤x) (hx2:x<9223372036854775808) (hy:0≤y) (hy2:y<9223372036854775808): ∃z,U6 .xor .i64 x y=some z∧0≤z:=by
 obtain⟨a,rfl⟩:=Int.eq_ofNat_of_zero_le hx
 obtain⟨b,rfl⟩:=Int.eq_ofNat_of_zero_le hy
 have ha:a<2 ^ 63:=by omega
 have hb:b<2 ^ 63:=by omega
 have hlt:a ^^^ b<2 ^ 63:=Nat.xor_lt_two_pow ha hb
 have e: ((BitVec.ofInt 64 (a:Int) ^^^ BitVec.ofInt 64 (b:Int)).toNat:Int)=((a ^^^ b:Nat):Int):=by
  rw[BitVec.ofInt_natCast,BitVec.ofInt_natCast,BitVec.toNat_xor,BitVec.toNat_ofNat,BitVec.toNat_ofNat,Nat.mod_eq_of_lt (by omega),Nat.mod_eq_of_lt (by omega)]
 refine⟨((a ^^^ b:Nat):Int), ?_,by omega⟩
 show some (IntKind.i64.wrap ((BitVec.ofInt 64 (a:Int) ^^^ BitVec.ofInt 64 (b:Int)).toNat:Int))=_
 rw[e,IntWalk.i64_in _ (by omega)]
def Bak (bs:List Int) (p:Int):Int:=
 bs.getD (p.tmod bs.length).toNat 0*131+bs.getD ((p*7+3).tmod bs.length).toNat 0*1117+p*29+p.tdiv bs.length*53
def Db (bs:List Int) (p n:Int):Int:=
 if n<1 then 0 else if bs.length=0 then 0 else if p<bs.length then(bs.getD p.toNat 0).tmod n else((U6 .xor .i64 (Bak bs p) ((Bak bs p).tdiv 64)).getD 0).tmod n
theorem Bnr (H:Hp) (r:Nat) (bs:List Int) (p n:Int) (h:Ci H r=some (rd bs p)) (hb:Dl bs) (hp:0≤p) (hp2:p≤1000000000000):ev R 21 [.ptr r 0 0 0, .d (.int .i64 n)] H=some (.d (.int .i64 (Db bs p n)),Bv H r (rd bs (p+1))):=by
 refine Bo (fn:=f21) rfl rfl ?_
 have w1:IntKind.i64.wrap (p+1)=p+1:=IntWalk.i64_in _ (by omega)
 have w2:IntKind.i64.wrap p=p:=IntWalk.i64_in _ (by omega)
 have hl:=Fh h
 have h1:Ci (Bv H r (rd bs (p+1))) r=some (rd bs (p+1)):=Ch _ hl
 have a0:=Bsn h1
 have a1:=Bio h1
 have b1:=Bio h
 have st:=Bso (q:=p+1) h
 unfold Db
 by_cases hn:n<1
 ·simp[Ck,-List.getD_eq_getElem?_getD,-List.map_map,f21,w1,w2,a0,a1,b1,st,hn,Lb]
 ·by_cases hz:bs.length=0
  ·have hz':bs=[]:=List.eq_nil_of_length_eq_zero hz
   subst hz'
   simp[Ck,-List.getD_eq_getElem?_getD,-List.map_map,f21,w1,w2,a0,a1,b1,st,hn,Lb]
  ·have hz': ¬bs=[]:=fun e=>hz (by subst e;rfl)
   have n0: ¬n=0:=by omega
   by_cases hlt:p< (bs.length:Int)
   ·have g:=Yo bs p.toNat (by omega)
    have bb:=hb.2 p.toNat
    have w3:IntKind.i64.wrap (bs.getD p.toNat 0)=bs.getD p.toNat 0:=IntWalk.i64_in _ (by omega)
    simp[Ck,-List.getD_eq_getElem?_getD,-List.map_map,f21,w1,w2,w3,a0,a1,b1,st,hn,hz,hz',hp,hlt,g,n0,Lb]
   ·have L0: (0:Int)<bs.length:=by omega
    have lz: ¬ (bs.length:Int)=0:=by omega
    have i1:0≤p.tmod bs.length:=Int.tmod_nonneg _ hp
    have i2:p.tmod bs.length<bs.length:=Int.tmod_lt_of_pos _ L0
    have j1:0≤(p*7+3).tmod bs.length:=Int.tmod_nonneg _ (by omega)
    have j2: (p*7+3).tmod bs.length<bs.length:=Int.tmod_lt_of_pos _ L0
    have g1:=Yo bs (p.tmod bs.length).toNat (by omega)
    have g2:=Yo bs ((p*7+3).tmod bs.length).toNat (by omega)
    have c1:=hb.2 (p.tmod bs.length).toNat
    have c2:=hb.2 ((p*7+3).tmod bs.length).toNat
    have d0:0≤p.tdiv bs.length∧p.tdiv bs.length≤p:=by
     rw[Int.tdiv_eq_ediv_of_nonneg hp]
     exact⟨Int.ediv_nonneg hp (by omega),Int.ediv_le_self _ hp⟩
    obtain⟨X,hX⟩: ∃X,X=Bak bs p:=⟨_,rfl⟩
    have hXe:=hX
    unfold Bak at hXe
    rw[←hX]
    generalize bs.getD (p.tmod bs.length).toNat 0=x1 at g1 c1 hXe⊢
    generalize bs.getD ((p*7+3).tmod bs.length).toNat 0=x2 at g2 c2 hXe⊢
    generalize hq:p.tdiv bs.length=q at d0 hXe⊢
    have xb:0≤X∧X<9223372036854775807:=by omega
    have t0:0≤X.tdiv 64∧X.tdiv 64≤X:=by
     rw[Int.tdiv_eq_ediv_of_nonneg xb.1]
     omega
    obtain⟨z,hz1,hz2⟩:=Bt9 X (X.tdiv 64) xb.1 (by omega) t0.1 (by omega)
    have v1:IntKind.i64.wrap x1=x1:=IntWalk.i64_in _ (by omega)
    have v2:IntKind.i64.wrap (x1*131)=x1*131:=IntWalk.i64_in _ (by omega)
    have v3:IntKind.i64.wrap (p*7)=p*7:=IntWalk.i64_in _ (by omega)
    have v4:IntKind.i64.wrap (p*7+3)=p*7+3:=IntWalk.i64_in _ (by omega)
    have v5:IntKind.i64.wrap x2=x2:=IntWalk.i64_in _ (by omega)
    have v6:IntKind.i64.wrap (x2*1117)=x2*1117:=IntWalk.i64_in _ (by omega)
    have v7:IntKind.i64.wrap (x1*131+x2*1117)=x1*131+x2*1117:=IntWalk.i64_in _ (by omega)
    have v8:IntKind.i64.wrap (p*29)=p*29:=IntWalk.i64_in _ (by omega)
    have v9:IntKind.i64.wrap (x1*131+x2*1117+p*29)=x1*131+x2*1117+p*29:=IntWalk.i64_in _ (by omega)
    have v10:IntKind.i64.wrap q=q:=IntWalk.i64_in _ (by omega)
    have v11:IntKind.i64.wrap (q*53)=q*53:=IntWalk.i64_in _ (by omega)
    have v12:IntKind.i64.wrap (x1*131+x2*1117+p*29+q*53)=X:=by rw[hXe];exact IntWalk.i64_in _ (by omega)
    have v13:IntKind.i64.wrap (X.tdiv 64)=X.tdiv 64:=IntWalk.i64_in _ (by omega)
    simp[Ck,-List.getD_eq_getElem?_getD,-List.map_map,f21,w1,w2,a0,a1,b1,st,hn,hz,hz',hlt,n0,lz,Lb,i1,i2,j1,j2,g1,g2,hq,v1,v2,v3,v4,v5,v6,v7,v8,v9,v10,v11,v12,v13,hz1]
theorem Gp (bs:List Int) (p n:Int) (hb:Dl bs) (hp:0≤p) (hp2:p≤1000000000000):0≤Db bs p n∧(1≤n→Db bs p n<n):=by
 unfold Db
 split
 ·omega
 ·split
  ·omega
  ·split
   ·have:=hb.2 p.toNat
    exact⟨Int.tmod_nonneg _ this.1,fun h=>Int.tmod_lt_of_pos _ (by omega)⟩
   ·rename_i h1 h2 h3
    have c1:=hb.2 (p.tmod bs.length).toNat
    have c2:=hb.2 ((p*7+3).tmod bs.length).toNat
    have d0:0≤p.tdiv bs.length∧p.tdiv bs.length≤p:=by
     rw[Int.tdiv_eq_ediv_of_nonneg hp]
     exact⟨Int.ediv_nonneg hp (by omega),Int.ediv_le_self _ hp⟩
    have xb:0≤Bak bs p∧Bak bs p<9223372036854775807:=by
     unfold Bak
     omega
    have t0:0≤(Bak bs p).tdiv 64∧(Bak bs p).tdiv 64≤Bak bs p:=by
     rw[Int.tdiv_eq_ediv_of_nonneg xb.1]
     omega
    obtain⟨z,hz1,hz2⟩:=Bt9 (Bak bs p) ((Bak bs p).tdiv 64) xb.1 (by omega) t0.1 (by omega)
    rw[hz1]
    exact⟨Int.tmod_nonneg _ hz2,fun h=>Int.tmod_lt_of_pos _ (by omega)⟩
def ofV (bs:List Int) (p:Int) (xs:List Bl):Bl:=xs.getD (Db bs p xs.length).toNat []
theorem Byu (H:Hp) (r:Nat) (bs:List Int) (p:Int) (xs:List Bl) (h:Ci H r=some (rd bs p)) (hb:Dl bs) (hp:0≤p) (hp2:p≤1000000000000) (hx:0<xs.length):ev R 34 [.ptr r 0 0 0, .d (Bf xs)] H=some (.d (.str (ofV bs p xs)),Bv H r (rd bs (p+1))):=by
 refine Bo (fn:=f34) rfl rfl ?_
 have q:=Bnr H r bs p xs.length h hb hp hp2
 obtain⟨k0,k1⟩:=Gp bs p xs.length hb hp hp2
 have k1:=k1 (by omega)
 have g:=Dt xs (Db bs p xs.length).toNat (by omega)
 simp[Ck,-List.getD_eq_getElem?_getD,-List.map_map,f34,Bf,q,k0,k1,g,Lb,ofV]
def Bb7 (s:Bl) (n:Nat) (out:Bl):Bl:=
 if h:n=0 then out else Bb7 (s++s) (n / 2) (if n % 2=1 then out++s else out)
termination_by n
decreasing_by omega
theorem B3y (n0:Nat) (H:Hp): ∀ (n:Nat) (s out:Bl) (e:Env),n≤1000→out.length+s.length*n≤1000000→s.length≤2000000→e.get 0= .d (.str s)→e.get 1= .d (.int .i64 n)→e.get 5= .d (.str out)→
  ∃e',Bg (Bp (ev R) R.glob n0 Bg Bd0) [0,1,5] ⟨e,H⟩=some (.exit 0,⟨e',H⟩)∧e'.get 5= .d (.str (Bb7 s n out)):=by
 intro n
 induction n using Nat.strongRecOn with
 |_ n ih=>
  intro s out e hn hl hsl h0 h1 h5
  by_cases hz:n=0
  ·subst hz
   rw[Bw]
   refine⟨?_, ?_, ?_⟩
   rotate_left
   ·simp[Ck,-List.getD_eq_getElem?_getD,-List.map_map,Bd0,h0,h1,h5]
    rfl
   ·rw[Bb7]
    simp[Ck,-List.getD_eq_getElem?_getD,-List.map_map,h5]
  ·have c: (0:Int)< (n:Int):=by omega
   have c':0<n:=by omega
   have m2:IntKind.i64.wrap ((n:Int).tdiv 2)=((n / 2:Nat):Int):=by
    rw[Int.tdiv_eq_ediv_of_nonneg (by omega),IntWalk.i64_in _ (by omega)];omega
   have m3:IntKind.i64.wrap ((n:Int) / 2)=((n / 2:Nat):Int):=by
    rw[IntWalk.i64_in _ (by omega)];omega
   have hmul:s.length*(n / 2)*2≤s.length*n:=by
    rw[Nat.mul_assoc]
    exact Nat.mul_le_mul_left _ (by omega)
   have hmul1:s.length*1≤s.length*n:=Nat.mul_le_mul_left _ (by omega)
   have l2:s.length+s.length≤Bu:=by unfold Bu;omega
   have l3:out.length+s.length≤Bu:=by unfold Bu;omega
   have hd: (s++s).length*(n / 2)=s.length*(n / 2)*2:=by rw[List.length_append,Nat.add_mul];omega
   have hsq: (s++s).length≤2000000:=by rw[List.length_append];omega
   have hodd:s.length*n=s.length*(n / 2)*2+s.length*(n % 2):=by
    rw[Nat.mul_assoc,←Nat.mul_add]
    congr 1
    omega
   rw[Bw]
   have ih':=ih (n / 2) (by omega) (s++s) (if n % 2=1 then out++s else out)
   rw[Bb7,dif_neg hz]
   generalize Bb7 (s++s) (n / 2) (if n % 2=1 then out++s else out)=M at ih'⊢
   generalize Bg (Bp (ev R) R.glob n0 Bg Bd0) [0,1,5]=F at ih'⊢
   by_cases odd:n % 2=1
   ·have m1: (n:Int).tmod 2=1:=by rw[Int.tmod_eq_emod_of_nonneg (by omega)];omega
    rw[odd] at hodd
    simp only[odd,if_true] at ih'
    simp[Ck,-List.getD_eq_getElem?_getD,-List.map_map,Bd0,h0,h1,h5,c,c',m1,m2,m3,l2,l3]
    refine ih' _ (by omega) ?_ hsq ?_ ?_ ?_
    ·rw[hd,List.length_append];omega
    all_goals rfl
   ·have m1: (n:Int).tmod 2=0:=by rw[Int.tmod_eq_emod_of_nonneg (by omega)];omega
    simp only[odd,if_false] at ih'
    simp[Ck,-List.getD_eq_getElem?_getD,-List.map_map,Bd0,h0,h1,h5,c,c',m1,m2,m3,l2,l3]
    refine ih' _ (by omega) ?_ hsq ?_ ?_ ?_
    ·rw[hd];omega
    all_goals rfl
theorem B3s (H:Hp) (s:Bl) (n:Nat) (hn:n≤1000) (hs:s.length≤1000):ev R 55 [.d (.str s), .d (.int .i64 n)] H=some (.d (.str (Bb7 s n [])),H):=by
 refine Bo (fn:=f55) rfl rfl ?_
 have hm:s.length*n≤1000*1000:=Nat.mul_le_mul hs hn
 obtain⟨e',he,h5⟩:=B3y (Bc H) H n s [] [(0, .d (.str s)),(1, .d (.int .i64 n)),(5, .d (.str []))] hn (by simp;omega) (by omega) rfl rfl rfl
 simp[Ck,-List.getD_eq_getElem?_getD,-List.map_map,f55,he,h5]
def Q0:List Bl:=[[],[97],[98],[99],[53],[45,51],[104,101,108,108,111],[13,10],[255],Bb7 [120] 40 [],[57,57,57,57,57,57,57,57,57]]
def U3 (bs:List Int) (p:Int):Bl:=ofV bs p Q0
theorem B06 (H:Hp) (r:Nat) (bs:List Int) (p:Int) (h:Ci H r=some (rd bs p)) (hb:Dl bs) (hp:0≤p) (hp2:p≤1000000000000):ev R 42 [.ptr r 0 0 0] H=some (.d (.str (U3 bs p)),Bv H r (rd bs (p+1))):=by
 refine Bo (fn:=f42) rfl rfl ?_
 have q:=Byu H r bs p Q0 h hb hp hp2 (by simp[Q0])
 have m:Be (ev R) 55 [.d (.str [120]), .d (.int .i64 40)]=some (.d (.str (Bb7 [120] 40 []))):=Bb fun H=>B3s H [120] 40 (by omega) (by simp)
 unfold U3
 simp only[Q0,Bf,List.map_cons,List.map_nil] at q⊢
 simp[Ck,-List.getD_eq_getElem?_getD,-List.map_map,f42,m,q,Lb]
theorem Bru (s:Bl) (n:Nat) (out:Bl): (Bb7 s n out).length=out.length+s.length*n:=by
 induction n using Nat.strongRecOn generalizing s out with
 |_ n ih=>
  rw[Bb7]
  split
  ·rename_i h;subst h;simp
  ·rw[ih (n / 2) (by omega)]
   have hodd:s.length*n=s.length*(n / 2)*2+s.length*(n % 2):=by
    rw[Nat.mul_assoc,←Nat.mul_add]
    congr 1
    omega
   have hd: (s++s).length*(n / 2)=s.length*(n / 2)*2:=by rw[List.length_append,Nat.add_mul];omega
   rw[hd]
   split
   ·rename_i h;rw[h] at hodd;rw[List.length_append];omega
   ·rename_i h;have:n % 2=0:=by omega
    rw[this] at hodd;omega
theorem Ud (bs:List Int) (p:Int) (xs:List Bl) (m:Nat) (h: ∀x∈xs,x.length≤m): (ofV bs p xs).length≤m:=by
 unfold ofV
 by_cases hi: (Db bs p xs.length).toNat<xs.length
 ·rw[List.getD_eq_getElem?_getD,List.getElem?_eq_getElem hi]
  exact h _ (List.getElem_mem hi)
 ·rw[List.getD_eq_getElem?_getD,List.getElem?_eq_none (by omega)]
  exact Nat.zero_le _
theorem Be1 (bs:List Int) (p:Int): (U3 bs p).length≤40:=by
 refine Ud bs p Q0 40 fun x hx=> ?_
 have hm:=Bru [120] 40 []
 simp only[Q0,List.mem_cons,List.not_mem_nil,or_false] at hx
 rcases hx with rfl|rfl|rfl|rfl|rfl|rfl|rfl|rfl|rfl|rfl|rfl<;>first| (rw[hm];simp) |simp
def F8 (bs:List Int):List Int:=bs.take 2000
theorem Beg (bs:List Int) (h: ∀i,0≤bs.getD i 0∧bs.getD i 0≤255):Dl (F8 bs):=by
 refine⟨by simp[F8];omega,fun i=> ?_⟩
 by_cases hi:i<2000
 ·have: (F8 bs).getD i 0=bs.getD i 0:=by simp[F8,List.getD_eq_getElem?_getD,List.getElem?_take,hi]
  rw[this];exact h i
 ·have: (F8 bs).getD i 0=0:=by simp[F8,List.getD_eq_getElem?_getD,List.getElem?_take,hi]
  rw[this];omega
theorem e_9 (H:Hp) (bs:List Int):ev R 9 [.d (Pb bs)] H=some (.ptr (Bc H) 0 0 0,Bt H (rd (F8 bs) 0)):=by
 refine Bo (fn:=f9) rfl rfl ?_
 by_cases hb:2000< (bs.length:Int)
 ·have h1:2000≤bs.length:=by omega
  have h2: (2000:Int)≤bs.length:=by omega
  simp[Ck,-List.getD_eq_getElem?_getD,-List.map_map,f9,hb,h1,h2,De,Nl,Yg,rd,F8,Yv]
  simp only[Pb,List.map_take]
 ·have h1: ¬2000<bs.length:=by omega
  have e:bs.take 2000=bs:=List.take_of_length_le (by omega)
  simp[Ck,-List.getD_eq_getElem?_getD,-List.map_map,f9,hb,h1,Nl,Yg,rd,F8,e,Yv]
def C9 (n:Nat):Bl:=if h:n<10 then[UInt8.ofNat (48+n)] else C9 (n / 10)++[UInt8.ofNat (48+n % 10)]
termination_by n
decreasing_by omega
theorem Mw (n:Nat): (C9 n).length≤n+1:=by
 induction n using Nat.strongRecOn with
 |_ n ih=>
  rw[C9]
  split
  ·simp
  ·have:=ih (n / 10) (by omega)
   rw[List.length_append]
   simp only[List.length_singleton]
   omega
theorem Bns (n:Nat): ∀ (H:Hp),n≤1000000000→ev R 29 [.d (.int .i64 n)] H=some (.d (.str (C9 n)),H):=by
 induction n using Nat.strongRecOn with
 |_ n ih=>
  intro H hn
  refine Bo (fn:=f29) rfl rfl ?_
  have c1: ¬ (n:Int)< -9223372036854775807:=by omega
  have c2: ¬ (n:Int)<0:=by omega
  by_cases c3:n<10
  ·have c3': (n:Int)<10:=by omega
   have w1:IntKind.i64.wrap (48+(n:Int))=48+n:=IntWalk.i64_in _ (by omega)
   have w2:IntKind.u8.wrap (48+(n:Int))=48+n:=IntWalk.u8_in _ (by omega)
   have t: (48+(n:Int)).toNat=48+n:=by omega
   rw[C9,dif_pos c3]
   simp[Ck,-List.getD_eq_getElem?_getD,-List.map_map,f29,c1,c2,c3,c3',w1,w2,t,R6,Bag]
  ·have c3': ¬ (n:Int)<10:=by omega
   have q:Be (ev R) 29 [.d (.int .i64 ((n / 10:Nat):Int))]=some (.d (.str (C9 (n / 10)))):=Bb fun H=>ih (n / 10) (by omega) H (by omega)
   obtain⟨k,hk⟩: ∃k:Int,((n / 10:Nat):Int)=k:=⟨_,rfl⟩
   obtain⟨d,hd⟩: ∃d:Int,(n:Int).tmod 10=d:=⟨_,rfl⟩
   have hd':d=((n % 10:Nat):Int):=by rw[←hd,Int.tmod_eq_emod_of_nonneg (by omega)];omega
   rw[hk] at q
   have w0:IntKind.i64.wrap ((n:Int).tdiv 10)=k:=by rw[Int.tdiv_eq_ediv_of_nonneg (by omega),IntWalk.i64_in _ (by omega)];omega
   have w0':IntKind.i64.wrap ((n:Int) / 10)=k:=by rw[IntWalk.i64_in _ (by omega)];omega
   have hd2: (n:Int) % 10=d:=by omega
   have w1:IntKind.i64.wrap (48+d)=48+d:=IntWalk.i64_in _ (by omega)
   have w2:IntKind.u8.wrap (48+d)=48+d:=IntWalk.u8_in _ (by omega)
   have t: (48+d).toNat=48+n % 10:=by omega
   have hl:=Mw (n / 10)
   have l: (C9 (n / 10)).length+1≤Bu:=by unfold Bu;omega
   rw[C9,dif_neg c3]
   simp[Ck,-List.getD_eq_getElem?_getD,-List.map_map,f29,c1,c2,c3,c3',q,w0,w0',hd,hd2,w1,w2,t,l,R6,Bag]
def Fz (bs:List Int):Nat→Int→List Bl
 |0,_=> []
 |n+1,p=>U3 bs p::Fz bs n (p+1)
theorem Le (bs:List Int): ∀ (n:Nat) (p:Int),(Fz bs n p).length=n
 |0,_=>rfl
 |n+1,p=>by simp[Fz,Le bs n (p+1)]
def Jc (k:Nat) (ts:List Bl):Ev.Obj:= .row k 1 ((ts.map D.str).map V.d)
theorem Bg9 {H:Hp} {r:Nat} {o:Ev.Obj} {bs:List Int} {p:Int} (h:Ci H r=some (rd bs p)) (q:Int):Ci (Bt (Bv H r (rd bs q)) o) r=some (rd bs q):=by
 have hl:=Fh h
 rw[D7 _ (by rw[Br];exact hl),Ch _ hl]
theorem Ti {H:Hp} {k:Nat} {ts:List Bl} {n:Nat} (hn:n=Bc H):Ct (Bt H (Jc k ts)) n k=some (1,(ts.map D.str).map V.d):=by
 subst hn;exact G7 _ _ _ _
theorem Bir {H:Hp} {k:Nat} {ts:List Bl} {t:Bl} {n:Nat} (hn:n=Bc H) (o:Ev.Obj):Bv (Bt H o) n (.row k 1 ((ts.map D.str).map V.d++[.d (.str t)]))=Bt H (Jc k (ts++[t])):=by
 subst hn
 rw[Qr]
 simp[Jc]
theorem B1h (n0:Nat) (H:Hp) (r:Nat) (bs:List Int) (p0:Int) (h:Ci H r=some (rd bs p0)) (hb:Dl bs): ∀ (n k:Nat) (ts:List Bl) (p:Int) (e:Env),n≤1000→ts.length+n≤1000000→0≤p→p+n≤1000000000000→e.get 0= .ptr r 0 0 0→e.get 5= .slc (Bc H) k 0 ts.length→e.get 6= .d (.int .i64 n)→
  ∃e',Bg (Bp (ev R) R.glob n0 Bg Bgy) [0,5,6] ⟨e,Bt (Bv H r (rd bs p)) (Jc k ts)⟩=some (.exit 0,⟨e',Bt (Bv H r (rd bs (p+n))) (Jc (k+n) (ts++Fz bs n p))⟩)∧e'.get 5= .slc (Bc H) (k+n) 0 (ts.length+n)
 |0,k,ts,p,e,hn,hl,hp,hp2,h0,h5,h6=>by
  rw[Bw]
  refine⟨?_, ?_, ?_⟩
  rotate_left
  ·simp[Ck,-List.getD_eq_getElem?_getD,-List.map_map,Bgy,h0,h5,h6,Fz]
   rfl
  ·simp[Ck,-List.getD_eq_getElem?_getD,-List.map_map,h5]
 |n+1,k,ts,p,e,hn,hl,hp,hp2,h0,h5,h6=>by
  have c: (0:Int)< ((n+1:Nat):Int):=by omega
  have w1:IntKind.i64.wrap (((n+1:Nat):Int) - 1)=(n:Int):=by rw[IntWalk.i64_in _ (by omega)];omega
  obtain⟨m,hm⟩: ∃m:Int,((n+1:Nat):Int)=m:=⟨_,rfl⟩
  rw[hm] at c w1 h6
  have hg:=Bg9 (o:=Jc k ts) h p
  have q:=B06 (Bt (Bv H r (rd bs p)) (Jc k ts)) r bs p hg hb hp (by omega)
  have hl2:Bc H=Bc (Bv H r (rd bs (p+1))):=(Br _ _ _).symm
  have hlt:=Fh h
  have e1:Bv (Bt (Bv H r (rd bs p)) (Jc k ts)) r (rd bs (p+1))=Bt (Bv H r (rd bs (p+1))) (Jc k ts):=by
   rw[Lm (by rw[Br];exact hlt),Jo]
  rw[e1] at q
  have q2:=Ti (k:=k) (ts:=ts) hl2
  have q3:=Bir (k:=k+1) (ts:=ts) (t:=U3 bs p) hl2 (Jc k ts)
  have rm: (ts.length+1)*16≤Cx:=by unfold Cx;omega
  have ih:=B1h n0 H r bs p0 h hb n (k+1) (ts++[U3 bs p]) (p+1)
  have r1:p+((n+1:Nat):Int)=p+1+n:=by omega
  have r2:k+(n+1)=k+1+n:=by omega
  have r3:ts++Fz bs (n+1) p=(ts++[U3 bs p])++Fz bs n (p+1):=by simp[Fz]
  have r4:ts.length+(n+1)=(ts++[U3 bs p]).length+n:=by simp;omega
  rw[r1,r2,r3,r4]
  generalize Bt (Bv H r (rd bs (p+1+(n:Int)))) (Jc (k+1+n) (ts++[U3 bs p]++Fz bs n (p+1)))=HX at ih⊢
  generalize hL: (ts++[U3 bs p]).length=L at ih⊢
  have hL':L=ts.length+1:=by rw[←hL];simp
  generalize k+1+n=K at ih⊢
  rw[Bw]
  generalize Bg (Bp (ev R) R.glob n0 Bg Bgy) [0,5,6]=F at ih⊢
  subst hL'
  simp[Ck,-List.getD_eq_getElem?_getD,-List.map_map,Bgy,h0,h5,h6,c,w1,q,q2,q3,rm,R6]
  refine ih _ (by omega) (by omega) (by omega) (by omega) ?_ ?_ ?_<;>rfl
theorem Bbb: ∀ (ds:List D),Gi (ds.map V.d)=some ds
 | []=>rfl
 |d::ds=>by simp only[List.map_cons,Gi,Bbb ds]
theorem B3r (H:Hp) (r:Nat) (bs:List Int) (p most:Int) (h:Ci H r=some (rd bs p)) (hb:Dl bs) (hp:0≤p) (hp2:p≤100000000000) (hm:0≤most∧most≤900):
  ev R 44 [.ptr r 0 0 0, .d (.int .i64 most)] H=some (.slc (Bc H) 0 0 (Db bs p (most+1)).toNat,Bt (Bv H r (rd bs (p+1+(Db bs p (most+1)).toNat))) (Jc 0 (Fz bs (Db bs p (most+1)).toNat (p+1)))):=by
 refine Bo (fn:=f44) rfl rfl ?_
 obtain⟨k0,k1⟩:=Gp bs p (most+1) hb hp (by omega)
 have k1:=k1 (by omega)
 have w:IntKind.i64.wrap (most+1)=most+1:=IntWalk.i64_in _ (by omega)
 have hlt:=Fh h
 have hg:Ci (Bt H (.row 0 1 [])) r=some (rd bs p):=by rw[D7 _ hlt];exact h
 have q:=Bnr (Bt H (.row 0 1 [])) r bs p (most+1) hg hb hp (by omega)
 rw[Lm hlt] at q
 obtain⟨N,hN⟩: ∃N,(Db bs p (most+1)).toNat=N:=⟨_,rfl⟩
 have hN':Db bs p (most+1)=(N:Int):=by omega
 rw[hN]
 rw[hN'] at q
 obtain⟨e',he,h5⟩:=B1h (Bc H) H r bs p h hb N 0 [] (p+1) [(0, .ptr r 0 0 0),(5, .slc (Bc H) 0 0 0),(6, .d (.int .i64 N))] (by omega) (by simp;omega) (by omega) (by omega) rfl rfl rfl
 have hl2:Bc H=Bc (Bv H r (rd bs (p+1+(N:Int)))):=(Br _ _ _).symm
 have ht:Du (Bt (Bv H r (rd bs (p+1+(N:Int)))) (Jc (0+N) ([]++Fz bs N (p+1)))) (Bc H)=Bv H r (rd bs (p+1+(N:Int))):=by
  rw[hl2];exact Ji _ _
 have hr:=Ti (H:=Bv H r (rd bs (p+1+(N:Int)))) (k:=0+N) (ts:=[]++Fz bs N (p+1)) hl2
 have e0:Jc 0 []= .row 0 1 []:=rfl
 rw[e0] at he
 have a:=Bbb ((([]:List Bl)++Fz bs N (p+1)).map D.str)
 have hfin:Bt (Bv H r (rd bs (p+1+(N:Int)))) (.row 0 1 (((([]:List Bl)++Fz bs N (p+1)).map D.str).map V.d))=Bt (Bv H r (rd bs (p+1+(N:Int)))) (Jc 0 (Fz bs N (p+1))):=rfl
 rw[←hfin]
 generalize Bv H r (rd bs (p+1+(N:Int)))=X at he hl2 ht hr⊢
 generalize((([]:List Bl)++Fz bs N (p+1)).map D.str).map V.d=xs at a hr⊢
 generalize Jc (0+N) ([]++Fz bs N (p+1))=o at he ht hr
 have nl: ¬Bc H<Bc H:=by omega
 have len: ([]:List Bl).length+N=N:=by simp
 rw[len] at h5
 simp only[List.length_nil,Nat.zero_add] at hr h5⊢
 have hl3:=hl2.symm
 simp[Ck,-List.getD_eq_getElem?_getD,-List.map_map,f44,w,q,he,h5,ht,hr,a,nl,hl3,Yv]
end Go.Proofs.YtedlandcnpjghaaGreatDoor.Code
namespace Go.Proofs.YtedlandcnpjghaaGreatDoor.Code
open Go Go.Ev
inductive Res (α:Type) where
 |ok (a:α) (r:Bl)
 |short
 |bad
def Res.bind {α β:Type} (x:Res α) (f:α→Bl→Res β):Res β:=
 match x with
 | .ok a r=>f a r
 | .short=> .short
 | .bad=> .bad
def Fy (b:UInt8):Bl→Res Unit
 | []=> .short
 |c::r=>if c=b then .ok () r else .bad
def L8 (c:UInt8):Bool:=decide (48≤c.toNat) &&decide (c.toNat≤57)
def Gg (n:Int) (c:UInt8):Int:=10*n+((c.toNat:Int) - 48)
def Jj (low high:Int):Bl→Int→Bool→Res Int
 | [],_,_=> .short
 |c::r,n,first=>
  if L8 c=true then
   if first=false∧n=0 then .bad
   else if low≤Gg n c∧Gg n c≤high then Jj low high r (Gg n c) false else .bad
  else if first=true then .bad
  else if c=13 then(Fy 10 r).bind fun _ r'=> .ok n r' else .bad
def Jv (mark:UInt8) (low high:Int) (t:Bl):Res Int:=(Fy mark t).bind fun _ r=>Jj low high r 0 true
def X3 (n:Nat) (t:Bl):Res Bl:=if t.length<n then .short else .ok (t.take n) (t.drop n)
def Sz {α:Type} (x:α) (t:Bl):Res α:=(Fy 13 t).bind fun _ r=> (Fy 10 r).bind fun _ r'=> .ok x r'
def Z6 (t:Bl):Res Bl:=(Jv 36 0 40 t).bind fun n r=> (X3 n.toNat r).bind fun x r'=>Sz x r'
def Ld:Nat→Bl→Res (List Bl)
 |0,t=> .ok [] t
 |n+1,t=> (Z6 t).bind fun x r=> (Ld n r).bind fun xs r'=> .ok (x::xs) r'
def Lp (t:Bl):Res (List Bl):=(Jv 42 1 8 t).bind fun n r=>Ld n.toNat r
structure Good {α:Type} (P:Bl→Res α):Prop where
 ok: ∀t x r,P t= .ok x r→∃u,t=u++r∧∀r',P (u++r')= .ok x r'
 bad: ∀t t',P t= .bad→P (t++t')= .bad
theorem Good.bind {α β:Type} {P:Bl→Res α} {Q:α→Bl→Res β} (h:Good P) (k: ∀x,Good (Q x)):Good fun t=> (P t).bind Q:=by
 constructor
 ·intro t x r e0
  have e: (P t).bind Q= .ok x r:=e0
  clear e0
  cases hp:P t with
  |short=>rw[hp] at e;simp[Res.bind] at e
  |bad=>rw[hp] at e;simp[Res.bind] at e
  |ok y r1=>
   rw[hp] at e
   simp only[Res.bind] at e
   obtain⟨u1,rfl,h1⟩:=h.ok t y r1 hp
   obtain⟨u2,rfl,h2⟩:=(k y).ok r1 x r e
   refine⟨u1++u2,by rw[List.append_assoc],fun r'=> ?_⟩
   simp only[List.append_assoc,h1,Res.bind,h2]
 ·intro t t' e0
  have e: (P t).bind Q= .bad:=e0
  clear e0
  show(P (t++t')).bind Q= .bad
  cases hp:P t with
  |short=>rw[hp] at e;simp[Res.bind] at e
  |bad=>rw[h.bad t t' hp];rfl
  |ok y r1=>
   rw[hp] at e
   simp only[Res.bind] at e
   obtain⟨u1,rfl,h1⟩:=h.ok t y r1 hp
   rw[List.append_assoc,h1]
   exact(k y).bad r1 t' e
theorem Good.pure {α:Type} (x:α):Good fun t=>Res.ok x t:=
 ⟨fun t y r e=> (by cases e;exact⟨[],rfl,fun _=>rfl⟩),fun t t' e=> (by cases e)⟩
theorem Uc (b:UInt8):Good (Fy b):=by
 constructor
 ·intro t x r e
  cases t with
  |nil=>cases e
  |cons c t=>
   simp only[Fy] at e
   split at e
   ·rename_i h
    cases e
    exact⟨[c],rfl,fun r'=>by simp[Fy,h]⟩
   ·cases e
 ·intro t t' e
  cases t with
  |nil=>cases e
  |cons c t=>
   simp only[Fy] at e
   split at e
   ·cases e
   ·rename_i h
    simp[Fy,h]
theorem Bn5 (n:Nat):Good (X3 n):=by
 constructor
 ·intro t x r e
  unfold X3 at e
  split at e
  ·cases e
  ·rename_i h
   cases e
   refine⟨t.take n,(List.take_append_drop n t).symm,fun r'=> ?_⟩
   have hl: (t.take n).length=n:=by simp;omega
   unfold X3
   rw[if_neg (by simp;omega),List.take_append_of_le_length (by omega),List.take_of_length_le (by omega),List.drop_append_of_le_length (by omega),List.drop_of_length_le (by omega)]
   rfl
 ·intro t t' e
  unfold X3 at e
  split at e<;>cases e
theorem Bbw (low high:Int): ∀ (t:Bl) (n:Int) (first:Bool),(∀x r,Jj low high t n first= .ok x r→∃u,t=u++r∧∀r',Jj low high (u++r') n first= .ok x r')∧(∀t',Jj low high t n first= .bad→Jj low high (t++t') n first= .bad)
 | [],n,first=> ⟨fun x r e=> (by cases e),fun t' e=> (by cases e)⟩
 |c::t,n,first=>by
  have ih:=Bbw low high t (Gg n c) false
  have hb:Good fun r=> (Fy 10 r).bind fun _ r'=>Res.ok n r':=(Uc 10).bind fun _=>Good.pure n
  simp only[List.cons_append,Jj]
  constructor
  ·intro x r e
   split at e
   ·rename_i h1
    split at e
    ·cases e
    ·rename_i h2
     split at e
     ·rename_i h3
      obtain⟨u,rfl,hu⟩:=ih.1 x r e
      exact⟨c::u,rfl,fun r'=>by simp only[List.cons_append,Jj,h1,h2,h3,if_true,if_false,hu];simp⟩
     ·cases e
   ·rename_i h1
    split at e
    ·cases e
    ·rename_i h2
     split at e
     ·rename_i h3
      obtain⟨u,rfl,hu⟩:=hb.ok t x r e
      exact⟨c::u,rfl,fun r'=>by simp only[List.cons_append,Jj];rw[if_neg h1,if_neg h2,if_pos h3];exact hu r'⟩
     ·cases e
  ·intro t' e
   split at e
   ·rename_i h1
    split at e
    ·rename_i h2
     simp[h1,h2]
    ·rename_i h2
     split at e
     ·rename_i h3
      simp only[h1,h2,h3,if_true,if_false]
      simpa using ih.2 t' e
     ·rename_i h3
      simp only[h1,h2,h3,if_true,if_false]
   ·rename_i h1
    split at e
    ·rename_i h2
     simp[h1,h2]
    ·rename_i h2
     split at e
     ·rename_i h3
      rw[if_neg h1,if_neg h2,if_pos h3]
      exact hb.bad t t' e
     ·rename_i h3
      simp only[h1,h2,h3,if_true,if_false]
      simp
theorem Bby (mark:UInt8) (low high:Int):Good (Jv mark low high):=
 (Uc mark).bind fun _=> ⟨fun t x r e=> (Bbw low high t 0 true).1 x r e,fun t t' e=> (Bbw low high t 0 true).2 t' e⟩
theorem Brh {α:Type} (x:α):Good (Sz x):=(Uc 13).bind fun _=> (Uc 10).bind fun _=>Good.pure x
theorem Bn4:Good Z6:=(Bby 36 0 40).bind fun n=> (Bn5 n.toNat).bind fun x=>Brh x
theorem Bbx: ∀n,Good (Ld n)
 |0=>Good.pure []
 |n+1=>Bn4.bind fun x=> (Bbx n).bind fun xs=>Good.pure (x::xs)
theorem Rh:Good Lp:=(Bby 42 1 8).bind fun n=>Bbx n.toNat
def Kb (t:Bl):Int:=
 match Lp t with
 | .ok _ r=> (t.length:Int) - r.length
 | .short=>0
 | .bad=> -1
def Lh (t:Bl):List Bl:=
 match Lp t with
 | .ok x _=>x
 | .short=> []
 | .bad=> []
theorem Bfq (t:Bl): -1≤Kb t∧Kb t≤t.length:=by
 unfold Kb
 cases h:Lp t with
 |short=>simp only;omega
 |bad=>simp only;omega
 |ok x r=>
  obtain⟨u,rfl,_⟩:=Rh.ok t x r h
  simp only[List.length_append]
  omega
theorem Bhr (t:Bl) (k:Nat) (hk:k≤t.length): (0<Kb t→(k:Int)<Kb t∧Kb (t.take k)=0∨Kb t≤k∧Kb (t.take k)=Kb t)∧(¬0<Kb t→Kb (t.take k)=0∨Kb (t.take k)=Kb t):=by
 have split:t=t.take k++t.drop k:=(List.take_append_drop k t).symm
 have Bc: (t.take k).length=k:=by simp;omega
 have hd: (t.drop k).length=t.length - k:=by simp
 obtain⟨t1,h1⟩: ∃t1,t.take k=t1:=⟨_,rfl⟩
 obtain⟨t2,h2⟩: ∃t2,t.drop k=t2:=⟨_,rfl⟩
 rw[h1,h2] at split
 rw[h1] at Bc⊢
 rw[h2] at hd
 clear h1 h2
 subst split
 simp only[List.length_append] at hk hd
 cases hp:Lp t1 with
 |bad=>
  have h2:=Rh.bad t1 t2 hp
  simp[Kb,hp,h2]
 |ok x r=>
  obtain⟨u,hu,hur⟩:=Rh.ok t1 x r hp
  have h2:=hur (r++t2)
  rw[←List.append_assoc,←hu] at h2
  have e1:Kb t1=(t1.length:Int) - r.length:=by simp[Kb,hp]
  have e2:Kb (t1++t2)=(t1.length:Int) - r.length:=by
   simp only[Kb,h2,List.length_append];omega
  rw[e1,e2]
  refine⟨fun h=> .inr ⟨by omega,rfl⟩,fun h=> .inr rfl⟩
 |short=>
  have e1:Kb t1=0:=by simp[Kb,hp]
  rw[e1]
  refine⟨fun h=> .inl ⟨?_,rfl⟩,fun h=> .inl rfl⟩
  cases hp2:Lp (t1++t2) with
  |short=>simp[Kb,hp2] at h
  |bad=>simp[Kb,hp2] at h
  |ok x r=>
   have e2:Kb (t1++t2)=((t1++t2).length:Int) - r.length:=by simp[Kb,hp2]
   rw[e2]
   obtain⟨u,hu,hur⟩:=Rh.ok _ x r hp2
   rw[List.length_append]
   apply Classical.byContradiction
   intro hn
   have hul:u.length≤t1.length:=by
    have:=congrArg List.length hu
    simp only[List.length_append] at this
    omega
   have ht1:t1=u++t1.drop u.length:=by
    have a:=congrArg (List.take t1.length) hu
    rw[List.take_left] at a
    rw[List.take_append] at a
    have b:List.take t1.length u=u:=List.take_of_length_le hul
    rw[b] at a
    conv=>lhs;rw[a]
    rw[a,List.drop_left]
    congr 1
    simp
   have:=hur (t1.drop u.length)
   rw[←ht1,hp] at this
   cases this
def Sl:Bl→Nat→Int→Option Int
 | [],_,n=>some n
 |c::r,i,n=>if L8 c=true then Sl r (i+1) (if i<10 then n*10+((c.toNat:Int) - 48) else n) else none
def Ra (s:Bl):Int:=
 match Sl s 0 0 with
 |none=> -1
 |some n=>if s.length<1∨10<s.length∨(1<s.length∧s.getD 0 0=48) then -1 else n
theorem Md {c:UInt8} (h:L8 c=true):48≤c.toNat∧c.toNat≤57:=by
 simpa[L8] using h
theorem Bdp:L8 13=false:=by decide
theorem c48 (c:UInt8):c=48↔c.toNat=48:=by
 constructor
 ·rintro rfl;rfl
 ·intro h;exact UInt8.toNat_inj.1 h
end Go.Proofs.YtedlandcnpjghaaGreatDoor.Code
namespace Go.Proofs.YtedlandcnpjghaaGreatDoor.Code
open Go Go.Ev Go.Proofs
theorem Ba5 (xs:List Sc) (i:Nat) (hi:i<xs.length): (xs.map Ms).getD i .nilp= .agg [.str (xs.getD i ([],0)).1, .int .i64 (xs.getD i ([],0)).2]:=by
 simp[Ms,List.getD_eq_getElem?_getD,hi]
theorem Bmz (xs:List Pr) (i:Nat) (hi:i<xs.length): (xs.map Pv).getD i .nilp= .agg [.str (xs.getD i ([],[])).1, .str (xs.getD i ([],[])).2]:=by
 simp[Pv,List.getD_eq_getElem?_getD,hi]
theorem Bgr (H:Hp) (s:Bl):ev R 80 [.d (.str s)] H=some (.d (.bool (decide ((s.length:Int)≥1) &&decide ((s.length:Int)≤12))),H):=by
 refine Bo (fn:=f80) rfl rfl ?_
 have p:=Pi (s.length:Int) 1 12
 simp[Ck,-List.getD_eq_getElem?_getD,-List.map_map,f80,p]
def Jb (p:Nat→Bool):Nat→Nat→Bool
 |0,_=>false
 |n+1,i=>p i||Jb p n (i+1)
def Sv (xs:List Bl) (i:Nat):Bool:= !Op.bytesLess (xs.getD (i - 1) []) (xs.getD i [])
def Gx (xs:List Bl):Bool:= !Jb (Sv xs) (xs.length - 1) 1&&Dc xs
theorem Bx1 (n0:Nat) (xs:List Bl) (hx:xs.length≤9223372036854775807) (H:Hp): ∀ (n i:Nat) (e:Env),xs.length≤i+n→i+n≤xs.length+1→1≤i→(n=0∨i+n=xs.length)→e.get 0= .d (Bf xs)→e.get 3= .d (.int .i64 i)→
  ∃e',Bg (Bp (ev R) R.glob n0 Bg Yy) [0,3] ⟨e,H⟩=some ((bif Jb (Sv xs) n i then .ret else .exit 0),⟨e',H⟩)∧
   (Jb (Sv xs) n i=true→e'.get 2= .d (.bool false))∧(Jb (Sv xs) n i=false→e'.get 0= .d (Bf xs))
 |0,i,e,h1,h2,h3,h4,g0,g3=>by
  have c: ¬ (i:Int)< (xs.length:Int):=by omega
  have c': ¬i<xs.length:=by omega
  rw[Bw]
  simp only[Jb]
  refine⟨?_, ?_, ?_, ?_⟩
  rotate_left
  ·simp[Ck,-List.getD_eq_getElem?_getD,-List.map_map,Yy,g0,g3,Bf,c,c']
   try rfl
  ·intro h;simp at h
  ·intro _;simp[Ck,-List.getD_eq_getElem?_getD,-List.map_map,g0,Bf]
 |n+1,i,e,h1,h2,h3,h4,g0,g3=>by
  have h4:i+(n+1)=xs.length:=by omega
  have c':i<xs.length:=by omega
  have ih:=Bx1 n0 xs hx H n (i+1)
  have ga:=Dt xs i c'
  have gb:=Dt xs (i - 1) (by omega)
  have hp:Sv xs i= !Op.bytesLess (xs.getD (i - 1) []) (xs.getD i []):=rfl
  obtain⟨I,hI⟩: ∃I:Int,(i:Int)=I:=⟨_,rfl⟩
  obtain⟨I2,hI2⟩: ∃I:Int,((i+1:Nat):Int)=I:=⟨_,rfl⟩
  obtain⟨J,hJ⟩: ∃I:Int,((i - 1:Nat):Int)=I:=⟨_,rfl⟩
  have w0:IntKind.i64.wrap (I - 1)=J:=by rw[IntWalk.i64_in _ (by omega)];omega
  have w1:IntKind.i64.wrap (I+1)=I2:=by rw[IntWalk.i64_in _ (by omega)];omega
  have c:I< (xs.length:Int):=by omega
  have cj:J< (xs.length:Int):=by omega
  have p0:0≤I:=by omega
  have pj:0≤J:=by omega
  have t0:I.toNat=i:=by omega
  have tj:J.toNat=i - 1:=by omega
  have hk:xs.length≤i+1+n:=by omega
  have hk2:i+1+n≤xs.length+1:=by omega
  have hk3:n=0∨i+1+n=xs.length:=by omega
  rw[hI] at g3
  rw[hI2] at ih
  simp only[Jb]
  generalize Sv xs i=b at*
  generalize Jb (Sv xs) n (i+1)=S at*
  generalize xs.getD i []=x at*
  generalize xs.getD (i - 1) []=y at*
  rw[Bw]
  generalize Bg (Bp (ev R) R.glob n0 Bg Yy) [0,3]=F at ih⊢
  cases hl:Op.bytesLess y x with
  |false=>
   rw[hl] at hp
   subst hp
   simp only[Bool.not_false,Bool.true_or,cond_true]
   refine⟨?_, ?_, ?_, ?_⟩
   rotate_left
   ·simp[Ck,-List.getD_eq_getElem?_getD,-List.map_map,Yy,g0,g3,Bf,c,cj,p0,pj,t0,tj,w0,ga,gb,hl]
    try rfl
   ·intro _;simp[Ck,-List.getD_eq_getElem?_getD,-List.map_map]
   ·intro h;simp at h
  |true=>
   rw[hl] at hp
   subst hp
   simp only[Bool.not_true,Bool.false_or]
   simp[Ck,-List.getD_eq_getElem?_getD,-List.map_map,Yy,g0,g3,Bf,c,cj,p0,pj,t0,tj,w0,w1,ga,gb,hl]
   refine ih _ hk hk2 (by omega) hk3 ?_ ?_<;>rfl
theorem Zn (H:Hp) (xs:List Bl) (hx:xs.length≤9223372036854775807):ev R 114 [.d (Bf xs)] H=some (.d (.bool (Gx xs)),H):=by
 refine Bo (fn:=f114) rfl rfl ?_
 have p:=Bb (cl:=ev R) fun H=>Xj H xs hx
 obtain⟨e',he,h1,h2⟩:=Bx1 (Bc H) xs hx H (xs.length - 1) 1 [(0, .d (Bf xs)),(3, .d (.int .i64 1))] (by omega) (by omega) (by omega) (by omega) rfl rfl
 unfold Gx
 cases hb:Jb (Sv xs) (xs.length - 1) 1 with
 |true=>
  have h1:=h1 hb
  simp only[hb,cond_true] at he
  simp[Ck,-List.getD_eq_getElem?_getD,-List.map_map,f114,he,h1]
 |false=>
  have h2:=h2 hb
  simp only[hb,cond_false] at he
  simp[Ck,-List.getD_eq_getElem?_getD,-List.map_map,f114,he,h2,p]
def Qo (z:Int):Bl:=if z<0 then 45::C9 z.natAbs else C9 z.toNat
theorem B04 (H:Hp) (z:Int) (h: -1000000000≤z∧z≤1000000000):ev R 29 [.d (.int .i64 z)] H=some (.d (.str (Qo z)),H):=by
 unfold Qo
 by_cases c:z<0
 ·rw[if_pos c]
  refine Bo (fn:=f29) rfl rfl ?_
  obtain⟨n,hn⟩: ∃n:Nat,z.natAbs=n:=⟨_,rfl⟩
  have hz: -z=(n:Int):=by omega
  have c1: ¬z< -9223372036854775807:=by omega
  have w:IntKind.i64.wrap (-z)=(n:Int):=by rw[IntWalk.i64_in _ (by omega)];exact hz
  have p:=Bb (cl:=ev R) fun H=>Bns n H (by omega)
  have dl:=Mw n
  have l:1+(C9 n).length≤Bu:=by unfold Bu;omega
  rw[hn]
  generalize C9 n=x at*
  generalize(n:Int)=N at*
  simp[Ck,-List.getD_eq_getElem?_getD,-List.map_map,f29,c,c1,w,p,l]
 ·rw[if_neg c]
  obtain⟨n,rfl⟩:=Int.eq_ofNat_of_zero_le (show 0≤z by omega)
  exact Bns n H (by omega)
end Go.Proofs.YtedlandcnpjghaaGreatDoor.Code
