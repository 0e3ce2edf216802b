/- Lemmas (several texts in one). -/
import Derived.Test.YtpajcoanfkeibaaGreatDoorMDoKind4
import Derived.Test.YtpajcoanfkeibaaGreatDoorMDoKind6
import Derived.Test.YtpajcoanfkeibaaGreatDoorMDoKind7
import Derived.Test.YtpajcoanfkeibaaGreatDoorMDoKind8
set_option maxRecDepth 100000
set_option linter.unusedSimpArgs false
set_option linter.unusedVariables false
open List renaming getD_eq_getElem?_getD → Cda, map_map → Cdb, length_append → Cdi, map_cons → Cdd, getElem?_eq_getElem → Cdh
namespace Go.Proofs.YtpajcoanfkeibaaGreatDoor.Code
open Go Go.Ev Go.Proofs
abbrev Si (bs:List Int):D:= .vals 1 (bs.map (.int .u8))
def rd (bs:List Int) (p:Int):Ev.Obj:= .row 0 2 [.d (.agg [Si bs, .int .i64 p])]
theorem Y8 {H:Hp} {r:Nat} {bs:List Int} {p:Int} (h:Cc H r=some (rd bs p)):C8 H r 0=some (2,[.d (.agg [Si bs, .int .i64 p])]):=by
 simp[C8,h,rd]
theorem Btq {H:Hp} {r:Nat} {bs:List Int} {p:Int} (h:Cc H r=some (rd bs p)):Dq H r 0 0 0 1=some [.d (Si bs)]:=by
 simp[Dq,Y8 h,V.cells]
theorem Bi1 {H:Hp} {r:Nat} {bs:List Int} {p:Int} (h:Cc H r=some (rd bs p)):Dq H r 0 0 1 1=some [.d (.int .i64 p)]:=by
 simp[Dq,Y8 h,V.cells]
theorem Btr {H:Hp} {r:Nat} {bs:List Int} {p q:Int} (h:Cc H r=some (rd bs p)):Lr H r 0 0 1 [.d (.int .i64 q)]=some (Bw H r (rd bs q)):=by
 simp[Lr,Y8 h,V.cells,Lh,V.isAgg,Mw,Gr,rd]
theorem Lf {H:Hp} {r:Nat} {o:Ev.Obj} :Cx (Bw H r o) (Bc H)=Bw H r o:=by
 have:=J5 (Bw H r o)
 rwa[Bt] at this
def Dl (bs:List Int):Prop:=bs.length≤2000∧∀i,0≤bs.getD i 0∧bs.getD i 0≤255
theorem Ym (bs:List Int) (i:Nat) (hi:i<bs.length): (bs.map (D.int .u8)).getD i .nilp= .int .u8 (bs.getD i 0):=by
 simp[Cda,hi]
theorem Bwa (x y:Int) (hx:0≤x) (hx2:x<9223372036854775808) (hy:0≤y) (hy2:y<9223372036854775808): ∃z,U5 .xor .i64 x y=some z∧0≤z:=by
 obtain⟨a,rfl⟩:=Int.eq_ofNat_of_zero_le hx
 obtain⟨b,rfl⟩:=Int.eq_ofNat_of_zero_le hy
 have ha:a<2 ^ 63:=by omega
 have hb:b<2 ^ 63:=by omega
 have hlt:a ^^^ b<2 ^ 63:=Nat.xor_lt_two_pow ha hb
 have e: ((BitVec.ofInt 64 (a:Int) ^^^ BitVec.ofInt 64 (b:Int)).toNat:Int)=((a ^^^ b:Nat):Int):=by
  rw[BitVec.ofInt_natCast,BitVec.ofInt_natCast,BitVec.toNat_xor,BitVec.toNat_ofNat,BitVec.toNat_ofNat,Nat.mod_eq_of_lt (by omega),Nat.mod_eq_of_lt (by omega)]
 refine⟨((a ^^^ b:Nat):Int), ?_,by omega⟩
 show some (IntKind.i64.wrap ((BitVec.ofInt 64 (a:Int) ^^^ BitVec.ofInt 64 (b:Int)).toNat:Int))=_
 rw[e,IntWalk.i64_in _ (by omega)]
def Bac (bs:List Int) (p:Int):Int:=
 bs.getD (p.tmod bs.length).toNat 0*131+bs.getD ((p*7+3).tmod bs.length).toNat 0*1117+p*29+p.tdiv bs.length*53
def Dg (bs:List Int) (p n:Int):Int:=
 if n<1 then 0 else if bs.length=0 then 0 else if p<bs.length then(bs.getD p.toNat 0).tmod n else((U5 .xor .i64 (Bac bs p) ((Bac bs p).tdiv 64)).getD 0).tmod n
theorem Br9 (H:Hp) (r:Nat) (bs:List Int) (p n:Int) (h:Cc H r=some (rd bs p)) (hb:Dl bs) (hp:0≤p) (hp2:p≤1000000000000):ev R 43 [.ptr r 0 0 0, .d (.int .i64 n)] H=some (.d (.int .i64 (Dg bs p n)),Bw H r (rd bs (p+1))):=by
 refine Bh (fn:=f43) rfl rfl ?_
 have w1:IntKind.i64.wrap (p+1)=p+1:=IntWalk.i64_in _ (by omega)
 have w2:IntKind.i64.wrap p=p:=IntWalk.i64_in _ (by omega)
 have hl:=Fu h
 have h1:Cc (Bw H r (rd bs (p+1))) r=some (rd bs (p+1)):=Cn _ hl
 have a0:=Btq h1
 have a1:=Bi1 h1
 have b1:=Bi1 h
 have st:=Btr (q:=p+1) h
 unfold Dg
 by_cases hn:n<1
 ·simp[Cm,-Cda,-Cdb,f43,w1,w2,a0,a1,b1,st,hn,Lf]
 ·by_cases hz:bs.length=0
  ·have hz':bs=[]:=List.eq_nil_of_length_eq_zero hz
   subst hz'
   simp[Cm,-Cda,-Cdb,f43,w1,w2,a0,a1,b1,st,hn,Lf]
  ·have hz': ¬bs=[]:=fun e=>hz (by subst e;rfl)
   have n0: ¬n=0:=by omega
   by_cases hlt:p< (bs.length:Int)
   ·have g:=Ym bs p.toNat (by omega)
    have bb:=hb.2 p.toNat
    have w3:IntKind.i64.wrap (bs.getD p.toNat 0)=bs.getD p.toNat 0:=IntWalk.i64_in _ (by omega)
    simp[Cm,-Cda,-Cdb,f43,w1,w2,w3,a0,a1,b1,st,hn,hz,hz',hp,hlt,g,n0,Lf]
   ·have L0: (0:Int)<bs.length:=by omega
    have lz: ¬ (bs.length:Int)=0:=by omega
    have i1:0≤p.tmod bs.length:=Int.tmod_nonneg _ hp
    have i2:p.tmod bs.length<bs.length:=Int.tmod_lt_of_pos _ L0
    have j1:0≤(p*7+3).tmod bs.length:=Int.tmod_nonneg _ (by omega)
    have j2: (p*7+3).tmod bs.length<bs.length:=Int.tmod_lt_of_pos _ L0
    have g1:=Ym bs (p.tmod bs.length).toNat (by omega)
    have g2:=Ym bs ((p*7+3).tmod bs.length).toNat (by omega)
    have c1:=hb.2 (p.tmod bs.length).toNat
    have c2:=hb.2 ((p*7+3).tmod bs.length).toNat
    have d0:0≤p.tdiv bs.length∧p.tdiv bs.length≤p:=by
     rw[Int.tdiv_eq_ediv_of_nonneg hp]
     exact⟨Int.ediv_nonneg hp (by omega),Int.ediv_le_self _ hp⟩
    obtain⟨X,hX⟩: ∃X,X=Bac bs p:=⟨_,rfl⟩
    have hXe:=hX
    unfold Bac at hXe
    rw[←hX]
    generalize bs.getD (p.tmod bs.length).toNat 0=x1 at g1 c1 hXe⊢
    generalize bs.getD ((p*7+3).tmod bs.length).toNat 0=x2 at g2 c2 hXe⊢
    generalize hq:p.tdiv bs.length=q at d0 hXe⊢
    have xb:0≤X∧X<9223372036854775807:=by omega
    have t0:0≤X.tdiv 64∧X.tdiv 64≤X:=by
     rw[Int.tdiv_eq_ediv_of_nonneg xb.1]
     omega
    obtain⟨z,hz1,hz2⟩:=Bwa X (X.tdiv 64) xb.1 (by omega) t0.1 (by omega)
    have v1:IntKind.i64.wrap x1=x1:=IntWalk.i64_in _ (by omega)
    have v2:IntKind.i64.wrap (x1*131)=x1*131:=IntWalk.i64_in _ (by omega)
    have v3:IntKind.i64.wrap (p*7)=p*7:=IntWalk.i64_in _ (by omega)
    have v4:IntKind.i64.wrap (p*7+3)=p*7+3:=IntWalk.i64_in _ (by omega)
    have v5:IntKind.i64.wrap x2=x2:=IntWalk.i64_in _ (by omega)
    have v6:IntKind.i64.wrap (x2*1117)=x2*1117:=IntWalk.i64_in _ (by omega)
    have v7:IntKind.i64.wrap (x1*131+x2*1117)=x1*131+x2*1117:=IntWalk.i64_in _ (by omega)
    have v8:IntKind.i64.wrap (p*29)=p*29:=IntWalk.i64_in _ (by omega)
    have v9:IntKind.i64.wrap (x1*131+x2*1117+p*29)=x1*131+x2*1117+p*29:=IntWalk.i64_in _ (by omega)
    have v10:IntKind.i64.wrap q=q:=IntWalk.i64_in _ (by omega)
    have v11:IntKind.i64.wrap (q*53)=q*53:=IntWalk.i64_in _ (by omega)
    have v12:IntKind.i64.wrap (x1*131+x2*1117+p*29+q*53)=X:=by rw[hXe];exact IntWalk.i64_in _ (by omega)
    have v13:IntKind.i64.wrap (X.tdiv 64)=X.tdiv 64:=IntWalk.i64_in _ (by omega)
    simp[Cm,-Cda,-Cdb,f43,w1,w2,a0,a1,b1,st,hn,hz,hz',hlt,n0,lz,Lf,i1,i2,j1,j2,g1,g2,hq,v1,v2,v3,v4,v5,v6,v7,v8,v9,v10,v11,v12,v13,hz1]
theorem Jg (bs:List Int) (p n:Int) (hb:Dl bs) (hp:0≤p) (hp2:p≤1000000000000):0≤Dg bs p n∧(1≤n→Dg bs p n<n):=by
 unfold Dg
 split
 ·omega
 ·split
  ·omega
  ·split
   ·have:=hb.2 p.toNat
    exact⟨Int.tmod_nonneg _ this.1,fun h=>Int.tmod_lt_of_pos _ (by omega)⟩
   ·rename_i h1 h2 h3
    have c1:=hb.2 (p.tmod bs.length).toNat
    have c2:=hb.2 ((p*7+3).tmod bs.length).toNat
    have d0:0≤p.tdiv bs.length∧p.tdiv bs.length≤p:=by
     rw[Int.tdiv_eq_ediv_of_nonneg hp]
     exact⟨Int.ediv_nonneg hp (by omega),Int.ediv_le_self _ hp⟩
    have xb:0≤Bac bs p∧Bac bs p<9223372036854775807:=by
     unfold Bac
     omega
    have t0:0≤(Bac bs p).tdiv 64∧(Bac bs p).tdiv 64≤Bac bs p:=by
     rw[Int.tdiv_eq_ediv_of_nonneg xb.1]
     omega
    obtain⟨z,hz1,hz2⟩:=Bwa (Bac bs p) ((Bac bs p).tdiv 64) xb.1 (by omega) t0.1 (by omega)
    rw[hz1]
    exact⟨Int.tmod_nonneg _ hz2,fun h=>Int.tmod_lt_of_pos _ (by omega)⟩
def ofV (bs:List Int) (p:Int) (xs:List Br):Br:=xs.getD (Dg bs p xs.length).toNat []
theorem Bw4 (H:Hp) (r:Nat) (bs:List Int) (p:Int) (xs:List Br) (h:Cc H r=some (rd bs p)) (hb:Dl bs) (hp:0≤p) (hp2:p≤1000000000000) (hx:0<xs.length):ev R 45 [.ptr r 0 0 0, .d (Bf xs)] H=some (.d (.str (ofV bs p xs)),Bw H r (rd bs (p+1))):=by
 refine Bh (fn:=f45) rfl rfl ?_
 have q:=Br9 H r bs p xs.length h hb hp hp2
 obtain⟨k0,k1⟩:=Jg bs p xs.length hb hp hp2
 have k1:=k1 (by omega)
 have g:=Dk xs (Dg bs p xs.length).toNat (by omega)
 simp[Cm,-Cda,-Cdb,f45,Bf,q,k0,k1,g,Lf,ofV]
def Bb6 (s:Br) (n:Nat) (out:Br):Br:=
 if h:n=0 then out else Bb6 (s++s) (n / 2) (if n % 2=1 then out++s else out)
termination_by n
decreasing_by omega
theorem B3m (n0:Nat) (H:Hp): ∀ (n:Nat) (s out:Br) (e:Env),n≤1000→out.length+s.length*n≤1000000→s.length≤2000000→e.get 0= .d (.str s)→e.get 1= .d (.int .i64 n)→e.get 5= .d (.str out)→
  ∃e',Bg (Bq (ev R) R.glob n0 Bg Yv) [0,1,5] ⟨e,H⟩=some (.exit 0,⟨e',H⟩)∧e'.get 5= .d (.str (Bb6 s n out)):=by
 intro n
 induction n using Nat.strongRecOn with
 |_ n ih=>
  intro s out e hn hl hsl h0 h1 h5
  by_cases hz:n=0
  ·subst hz
   rw[Bv]
   refine⟨?_, ?_, ?_⟩
   rotate_left
   ·simp[Cm,-Cda,-Cdb,Yv,h0,h1,h5]
    rfl
   ·rw[Bb6]
    simp[Cm,-Cda,-Cdb,h5]
  ·have c: (0:Int)< (n:Int):=by omega
   have c':0<n:=by omega
   have m2:IntKind.i64.wrap ((n:Int).tdiv 2)=((n / 2:Nat):Int):=by
    rw[Int.tdiv_eq_ediv_of_nonneg (by omega),IntWalk.i64_in _ (by omega)];omega
   have m3:IntKind.i64.wrap ((n:Int) / 2)=((n / 2:Nat):Int):=by
    rw[IntWalk.i64_in _ (by omega)];omega
   have hmul:s.length*(n / 2)*2≤s.length*n:=by
    rw[Nat.mul_assoc]
    exact Nat.mul_le_mul_left _ (by omega)
   have hmul1:s.length*1≤s.length*n:=Nat.mul_le_mul_left _ (by omega)
   have l2:s.length+s.length≤Kl:=by unfold Kl;omega
   have l3:out.length+s.length≤Kl:=by unfold Kl;omega
   have hd: (s++s).length*(n / 2)=s.length*(n / 2)*2:=by rw[Cdi,Nat.add_mul];omega
   have hsq: (s++s).length≤2000000:=by rw[Cdi];omega
   have hodd:s.length*n=s.length*(n / 2)*2+s.length*(n % 2):=by
    rw[Nat.mul_assoc,←Nat.mul_add]
    congr 1
    omega
   rw[Bv]
   have ih':=ih (n / 2) (by omega) (s++s) (if n % 2=1 then out++s else out)
   rw[Bb6,dif_neg hz]
   generalize Bb6 (s++s) (n / 2) (if n % 2=1 then out++s else out)=M at ih'⊢
   generalize Bg (Bq (ev R) R.glob n0 Bg Yv) [0,1,5]=F at ih'⊢
   by_cases odd:n % 2=1
   ·have m1: (n:Int).tmod 2=1:=by rw[Int.tmod_eq_emod_of_nonneg (by omega)];omega
    rw[odd] at hodd
    simp only[odd,if_true] at ih'
    simp[Cm,-Cda,-Cdb,Yv,h0,h1,h5,c,c',m1,m2,m3,l2,l3]
    refine ih' _ (by omega) ?_ hsq ?_ ?_ ?_
    ·rw[hd,Cdi];omega
    all_goals rfl
   ·have m1: (n:Int).tmod 2=0:=by rw[Int.tmod_eq_emod_of_nonneg (by omega)];omega
    simp only[odd,if_false] at ih'
    simp[Cm,-Cda,-Cdb,Yv,h0,h1,h5,c,c',m1,m2,m3,l2,l3]
    refine ih' _ (by omega) ?_ hsq ?_ ?_ ?_
    ·rw[hd];omega
    all_goals rfl
theorem B21 (H:Hp) (s:Br) (n:Nat) (hn:n≤1000) (hs:s.length≤1000):ev R 197 [.d (.str s), .d (.int .i64 n)] H=some (.d (.str (Bb6 s n [])),H):=by
 refine Bh (fn:=f197) rfl rfl ?_
 have hm:s.length*n≤1000*1000:=Nat.mul_le_mul hs hn
 obtain⟨e',he,h5⟩:=B3m (Bc H) H n s [] [(0, .d (.str s)),(1, .d (.int .i64 n)),(5, .d (.str []))] hn (by simp;omega) (by omega) rfl rfl rfl
 simp[Cm,-Cda,-Cdb,f197,he,h5]
def Q4:List Br:=[[],[97],[98],[99],[53],[45,51],[104,101,108,108,111],[13,10],[255],Bb6 [120] 40 [],[57,57,57,57,57,57,57,57,57]]
def U2 (bs:List Int) (p:Int):Br:=ofV bs p Q4
theorem Bzo (H:Hp) (r:Nat) (bs:List Int) (p:Int) (h:Cc H r=some (rd bs p)) (hb:Dl bs) (hp:0≤p) (hp2:p≤1000000000000):ev R 160 [.ptr r 0 0 0] H=some (.d (.str (U2 bs p)),Bw H r (rd bs (p+1))):=by
 refine Bh (fn:=f160) rfl rfl ?_
 have q:=Bw4 H r bs p Q4 h hb hp hp2 (by simp[Q4])
 have m:Be (ev R) 197 [.d (.str [120]), .d (.int .i64 40)]=some (.d (.str (Bb6 [120] 40 []))):=Bb fun H=>B21 H [120] 40 (by omega) (by simp)
 unfold U2
 simp only[Q4,Bf,Cdd,List.map_nil] at q⊢
 simp[Cm,-Cda,-Cdb,f160,m,q,Lf]
theorem Bs1 (s:Br) (n:Nat) (out:Br): (Bb6 s n out).length=out.length+s.length*n:=by
 induction n using Nat.strongRecOn generalizing s out with
 |_ n ih=>
  rw[Bb6]
  split
  ·rename_i h;subst h;simp
  ·rw[ih (n / 2) (by omega)]
   have hodd:s.length*n=s.length*(n / 2)*2+s.length*(n % 2):=by
    rw[Nat.mul_assoc,←Nat.mul_add]
    congr 1
    omega
   have hd: (s++s).length*(n / 2)=s.length*(n / 2)*2:=by rw[Cdi,Nat.add_mul];omega
   rw[hd]
   split
   ·rename_i h;rw[h] at hodd;rw[Cdi];omega
   ·rename_i h;have:n % 2=0:=by omega
    rw[this] at hodd;omega
theorem Bau (bs:List Int) (p:Int) (xs:List Br) (m:Nat) (h: ∀x∈xs,x.length≤m): (ofV bs p xs).length≤m:=by
 unfold ofV
 by_cases hi: (Dg bs p xs.length).toNat<xs.length
 ·rw[Cda,Cdh hi]
  exact h _ (List.getElem_mem hi)
 ·rw[Cda,List.getElem?_eq_none (by omega)]
  exact Nat.zero_le _
theorem Be8 (bs:List Int) (p:Int): (U2 bs p).length≤40:=by
 refine Bau bs p Q4 40 fun x hx=> ?_
 have hm:=Bs1 [120] 40 []
 simp only[Q4,List.mem_cons,List.not_mem_nil,or_false] at hx
 rcases hx with rfl|rfl|rfl|rfl|rfl|rfl|rfl|rfl|rfl|rfl|rfl<;>first| (rw[hm];simp) |simp
def L8 (bs:List Int):List Int:=bs.take 2000
theorem Bpg (bs:List Int) (h: ∀i,0≤bs.getD i 0∧bs.getD i 0≤255):Dl (L8 bs):=by
 refine⟨by simp[L8];omega,fun i=> ?_⟩
 by_cases hi:i<2000
 ·have: (L8 bs).getD i 0=bs.getD i 0:=by simp[L8,Cda,List.getElem?_take,hi]
  rw[this];exact h i
 ·have: (L8 bs).getD i 0=0:=by simp[L8,Cda,List.getElem?_take,hi]
  rw[this];omega
theorem B79 (H:Hp) (bs:List Int):ev R 20 [.d (Si bs)] H=some (.ptr (Bc H) 0 0 0,Bp H (rd (L8 bs) 0)):=by
 refine Bh (fn:=f20) rfl rfl ?_
 by_cases hb:2000< (bs.length:Int)
 ·have h1:2000≤bs.length:=by omega
  have h2: (2000:Int)≤bs.length:=by omega
  simp[Cm,-Cda,-Cdb,f20,hb,h1,h2,Db,Qs,Be6,rd,L8,U7]
  simp only[Si,List.map_take]
 ·have h1: ¬2000<bs.length:=by omega
  have e:bs.take 2000=bs:=List.take_of_length_le (by omega)
  simp[Cm,-Cda,-Cdb,f20,hb,h1,Qs,Be6,rd,L8,e,U7]
def Sk (n:Nat):Br:=if h:n<10 then[UInt8.ofNat (48+n)] else Sk (n / 10)++[UInt8.ofNat (48+n % 10)]
termination_by n
decreasing_by omega
theorem Bhb (n:Nat): (Sk n).length≤n+1:=by
 induction n using Nat.strongRecOn with
 |_ n ih=>
  rw[Sk]
  split
  ·simp
  ·have:=ih (n / 10) (by omega)
   rw[Cdi]
   simp only[List.length_singleton]
   omega
theorem B3f (n:Nat): ∀ (H:Hp),n≤1000000000→ev R 68 [.d (.int .i64 n)] H=some (.d (.str (Sk n)),H):=by
 induction n using Nat.strongRecOn with
 |_ n ih=>
  intro H hn
  refine Bh (fn:=f68) rfl rfl ?_
  have c1: ¬ (n:Int)< -9223372036854775807:=by omega
  have c2: ¬ (n:Int)<0:=by omega
  by_cases c3:n<10
  ·have c3': (n:Int)<10:=by omega
   have w1:IntKind.i64.wrap (48+(n:Int))=48+n:=IntWalk.i64_in _ (by omega)
   have w2:IntKind.u8.wrap (48+(n:Int))=48+n:=IntWalk.u8_in _ (by omega)
   have t: (48+(n:Int)).toNat=48+n:=by omega
   rw[Sk,dif_pos c3]
   simp[Cm,-Cda,-Cdb,f68,c1,c2,c3,c3',w1,w2,t,R3,Z8]
  ·have c3': ¬ (n:Int)<10:=by omega
   have q:Be (ev R) 68 [.d (.int .i64 ((n / 10:Nat):Int))]=some (.d (.str (Sk (n / 10)))):=Bb fun H=>ih (n / 10) (by omega) H (by omega)
   obtain⟨k,hk⟩: ∃k:Int,((n / 10:Nat):Int)=k:=⟨_,rfl⟩
   obtain⟨d,hd⟩: ∃d:Int,(n:Int).tmod 10=d:=⟨_,rfl⟩
   have hd':d=((n % 10:Nat):Int):=by rw[←hd,Int.tmod_eq_emod_of_nonneg (by omega)];omega
   rw[hk] at q
   have w0:IntKind.i64.wrap ((n:Int).tdiv 10)=k:=by rw[Int.tdiv_eq_ediv_of_nonneg (by omega),IntWalk.i64_in _ (by omega)];omega
   have w0':IntKind.i64.wrap ((n:Int) / 10)=k:=by rw[IntWalk.i64_in _ (by omega)];omega
   have hd2: (n:Int) % 10=d:=by omega
   have w1:IntKind.i64.wrap (48+d)=48+d:=IntWalk.i64_in _ (by omega)
   have w2:IntKind.u8.wrap (48+d)=48+d:=IntWalk.u8_in _ (by omega)
   have t: (48+d).toNat=48+n % 10:=by omega
   have hl:=Bhb (n / 10)
   have l: (Sk (n / 10)).length+1≤Kl:=by unfold Kl;omega
   rw[Sk,dif_neg c3]
   simp[Cm,-Cda,-Cdb,f68,c1,c2,c3,c3',q,w0,w0',hd,hd2,w1,w2,t,l,R3,Z8]
def F3 (bs:List Int):Nat→Int→List Br
 |0,_=> []
 |n+1,p=>U2 bs p::F3 bs n (p+1)
theorem Li (bs:List Int): ∀ (n:Nat) (p:Int),(F3 bs n p).length=n
 |0,_=>rfl
 |n+1,p=>by simp[F3,Li bs n (p+1)]
def Jy (k:Nat) (ts:List Br):Ev.Obj:= .row k 1 ((ts.map D.str).map V.d)
theorem Bhw {H:Hp} {r:Nat} {o:Ev.Obj} {bs:List Int} {p:Int} (h:Cc H r=some (rd bs p)) (q:Int):Cc (Bp (Bw H r (rd bs q)) o) r=some (rd bs q):=by
 have hl:=Fu h
 rw[Da _ (by rw[Bt];exact hl),Cn _ hl]
theorem Bcw {H:Hp} {k:Nat} {ts:List Br} {n:Nat} (hn:n=Bc H):C8 (Bp H (Jy k ts)) n k=some (1,(ts.map D.str).map V.d):=by
 subst hn;exact Cy _ _ _ _
theorem Btx {H:Hp} {k:Nat} {ts:List Br} {t:Br} {n:Nat} (hn:n=Bc H) (o:Ev.Obj):Bw (Bp H o) n (.row k 1 ((ts.map D.str).map V.d++[.d (.str t)]))=Bp H (Jy k (ts++[t])):=by
 subst hn
 rw[Qt]
 simp[Jy]
theorem Bzy (n0:Nat) (H:Hp) (r:Nat) (bs:List Int) (p0:Int) (h:Cc H r=some (rd bs p0)) (hb:Dl bs): ∀ (n k:Nat) (ts:List Br) (p:Int) (e:Env),n≤1000→ts.length+n≤1000000→0≤p→p+n≤1000000000000→e.get 0= .ptr r 0 0 0→e.get 5= .slc (Bc H) k 0 ts.length→e.get 6= .d (.int .i64 n)→
  ∃e',Bg (Bq (ev R) R.glob n0 Bg Bbh) [0,5,6] ⟨e,Bp (Bw H r (rd bs p)) (Jy k ts)⟩=some (.exit 0,⟨e',Bp (Bw H r (rd bs (p+n))) (Jy (k+n) (ts++F3 bs n p))⟩)∧e'.get 5= .slc (Bc H) (k+n) 0 (ts.length+n)
 |0,k,ts,p,e,hn,hl,hp,hp2,h0,h5,h6=>by
  rw[Bv]
  refine⟨?_, ?_, ?_⟩
  rotate_left
  ·simp[Cm,-Cda,-Cdb,Bbh,h0,h5,h6,F3]
   rfl
  ·simp[Cm,-Cda,-Cdb,h5]
 |n+1,k,ts,p,e,hn,hl,hp,hp2,h0,h5,h6=>by
  have c: (0:Int)< ((n+1:Nat):Int):=by omega
  have w1:IntKind.i64.wrap (((n+1:Nat):Int) - 1)=(n:Int):=by rw[IntWalk.i64_in _ (by omega)];omega
  obtain⟨m,hm⟩: ∃m:Int,((n+1:Nat):Int)=m:=⟨_,rfl⟩
  rw[hm] at c w1 h6
  have hg:=Bhw (o:=Jy k ts) h p
  have q:=Bzo (Bp (Bw H r (rd bs p)) (Jy k ts)) r bs p hg hb hp (by omega)
  have hl2:Bc H=Bc (Bw H r (rd bs (p+1))):=(Bt _ _ _).symm
  have hlt:=Fu h
  have e1:Bw (Bp (Bw H r (rd bs p)) (Jy k ts)) r (rd bs (p+1))=Bp (Bw H r (rd bs (p+1))) (Jy k ts):=by
   rw[Nq (by rw[Bt];exact hlt),Mf]
  rw[e1] at q
  have q2:=Bcw (k:=k) (ts:=ts) hl2
  have q3:=Btx (k:=k+1) (ts:=ts) (t:=U2 bs p) hl2 (Jy k ts)
  have rm: (ts.length+1)*16≤Ct:=by unfold Ct;omega
  have ih:=Bzy n0 H r bs p0 h hb n (k+1) (ts++[U2 bs p]) (p+1)
  have r1:p+((n+1:Nat):Int)=p+1+n:=by omega
  have r2:k+(n+1)=k+1+n:=by omega
  have r3:ts++F3 bs (n+1) p=(ts++[U2 bs p])++F3 bs n (p+1):=by simp[F3]
  have r4:ts.length+(n+1)=(ts++[U2 bs p]).length+n:=by simp;omega
  rw[r1,r2,r3,r4]
  generalize Bp (Bw H r (rd bs (p+1+(n:Int)))) (Jy (k+1+n) (ts++[U2 bs p]++F3 bs n (p+1)))=HX at ih⊢
  generalize hL: (ts++[U2 bs p]).length=L at ih⊢
  have hL':L=ts.length+1:=by rw[←hL];simp
  generalize k+1+n=K at ih⊢
  rw[Bv]
  generalize Bg (Bq (ev R) R.glob n0 Bg Bbh) [0,5,6]=F at ih⊢
  subst hL'
  simp[Cm,-Cda,-Cdb,Bbh,h0,h5,h6,c,w1,q,q2,q3,rm,R3]
  refine ih _ (by omega) (by omega) (by omega) (by omega) ?_ ?_ ?_<;>rfl
theorem Ba2: ∀ (ds:List D),Gr (ds.map V.d)=some ds
 | []=>rfl
 |d::ds=>by simp only[Cdd,Gr,Ba2 ds]
theorem B2x (H:Hp) (r:Nat) (bs:List Int) (p most:Int) (h:Cc H r=some (rd bs p)) (hb:Dl bs) (hp:0≤p) (hp2:p≤100000000000) (hm:0≤most∧most≤900):
  ev R 162 [.ptr r 0 0 0, .d (.int .i64 most)] H=some (.slc (Bc H) 0 0 (Dg bs p (most+1)).toNat,Bp (Bw H r (rd bs (p+1+(Dg bs p (most+1)).toNat))) (Jy 0 (F3 bs (Dg bs p (most+1)).toNat (p+1)))):=by
 refine Bh (fn:=f162) rfl rfl ?_
 obtain⟨k0,k1⟩:=Jg bs p (most+1) hb hp (by omega)
 have k1:=k1 (by omega)
 have w:IntKind.i64.wrap (most+1)=most+1:=IntWalk.i64_in _ (by omega)
 have hlt:=Fu h
 have hg:Cc (Bp H (.row 0 1 [])) r=some (rd bs p):=by rw[Da _ hlt];exact h
 have q:=Br9 (Bp H (.row 0 1 [])) r bs p (most+1) hg hb hp (by omega)
 rw[Nq hlt] at q
 obtain⟨N,hN⟩: ∃N,(Dg bs p (most+1)).toNat=N:=⟨_,rfl⟩
 have hN':Dg bs p (most+1)=(N:Int):=by omega
 rw[hN]
 rw[hN'] at q
 obtain⟨e',he,h5⟩:=Bzy (Bc H) H r bs p h hb N 0 [] (p+1) [(0, .ptr r 0 0 0),(5, .slc (Bc H) 0 0 0),(6, .d (.int .i64 N))] (by omega) (by simp;omega) (by omega) (by omega) rfl rfl rfl
 have hl2:Bc H=Bc (Bw H r (rd bs (p+1+(N:Int)))):=(Bt _ _ _).symm
 have ht:Cx (Bp (Bw H r (rd bs (p+1+(N:Int)))) (Jy (0+N) ([]++F3 bs N (p+1)))) (Bc H)=Bw H r (rd bs (p+1+(N:Int))):=by
  rw[hl2];exact Fb _ _
 have hr:=Bcw (H:=Bw H r (rd bs (p+1+(N:Int)))) (k:=0+N) (ts:=[]++F3 bs N (p+1)) hl2
 have e0:Jy 0 []= .row 0 1 []:=rfl
 rw[e0] at he
 have a:=Ba2 ((([]:List Br)++F3 bs N (p+1)).map D.str)
 have hfin:Bp (Bw H r (rd bs (p+1+(N:Int)))) (.row 0 1 (((([]:List Br)++F3 bs N (p+1)).map D.str).map V.d))=Bp (Bw H r (rd bs (p+1+(N:Int)))) (Jy 0 (F3 bs N (p+1))):=rfl
 rw[←hfin]
 generalize Bw H r (rd bs (p+1+(N:Int)))=X at he hl2 ht hr⊢
 generalize((([]:List Br)++F3 bs N (p+1)).map D.str).map V.d=xs at a hr⊢
 generalize Jy (0+N) ([]++F3 bs N (p+1))=o at he ht hr
 have nl: ¬Bc H<Bc H:=by omega
 have len: ([]:List Br).length+N=N:=by simp
 rw[len] at h5
 simp only[List.length_nil,Nat.zero_add] at hr h5⊢
 have hl3:=hl2.symm
 simp[Cm,-Cda,-Cdb,f162,w,q,he,h5,ht,hr,a,nl,hl3,U7]
end Go.Proofs.YtpajcoanfkeibaaGreatDoor.Code
namespace Go.Proofs.YtpajcoanfkeibaaGreatDoor.Code
open Go Go.Ev
inductive Res (α:Type) where
 |ok (a:α) (r:Br)
 |short
 |bad
def Res.bind {α β:Type} (x:Res α) (f:α→Br→Res β):Res β:=
 match x with
 | .ok a r=>f a r
 | .short=> .short
 | .bad=> .bad
def Bnp (b:UInt8):Br→Res Unit
 | []=> .short
 |c::r=>if c=b then .ok () r else .bad
def Bbw (c:UInt8):Bool:=decide (48≤c.toNat) &&decide (c.toNat≤57)
def B0x (n:Int) (c:UInt8):Int:=10*n+((c.toNat:Int) - 48)
def Bph (low high:Int):Br→Int→Bool→Res Int
 | [],_,_=> .short
 |c::r,n,first=>
  if Bbw c=true then
   if first=false∧n=0 then .bad
   else if low≤B0x n c∧B0x n c≤high then Bph low high r (B0x n c) false else .bad
  else if first=true then .bad
  else if c=13 then(Bnp 10 r).bind fun _ r'=> .ok n r' else .bad
def B6c (mark:UInt8) (low high:Int) (t:Br):Res Int:=(Bnp mark t).bind fun _ r=>Bph low high r 0 true
def B6d (n:Nat) (t:Br):Res Br:=if t.length<n then .short else .ok (t.take n) (t.drop n)
def Cai {α:Type} (x:α) (t:Br):Res α:=(Bnp 13 t).bind fun _ r=> (Bnp 10 r).bind fun _ r'=> .ok x r'
def B6b (t:Br):Res Br:=(B6c 36 0 40 t).bind fun n r=> (B6d n.toNat r).bind fun x r'=>Cai x r'
def Bs5:Nat→Br→Res (List Br)
 |0,t=> .ok [] t
 |n+1,t=> (B6b t).bind fun x r=> (Bs5 n r).bind fun xs r'=> .ok (x::xs) r'
def B1c (t:Br):Res (List Br):=(B6c 42 1 8 t).bind fun n r=>Bs5 n.toNat r
structure Good {α:Type} (P:Br→Res α):Prop where
 ok: ∀t x r,P t= .ok x r→∃u,t=u++r∧∀r',P (u++r')= .ok x r'
 bad: ∀t t',P t= .bad→P (t++t')= .bad
theorem Good.bind {α β:Type} {P:Br→Res α} {Q:α→Br→Res β} (h:Good P) (k: ∀x,Good (Q x)):Good fun t=> (P t).bind Q:=by
 constructor
 ·intro t x r e0
  have e: (P t).bind Q= .ok x r:=e0
  clear e0
  cases hp:P t with
  |short=>rw[hp] at e;simp[Res.bind] at e
  |bad=>rw[hp] at e;simp[Res.bind] at e
  |ok y r1=>
   rw[hp] at e
   simp only[Res.bind] at e
   obtain⟨u1,rfl,h1⟩:=h.ok t y r1 hp
   obtain⟨u2,rfl,h2⟩:=(k y).ok r1 x r e
   refine⟨u1++u2,by rw[List.append_assoc],fun r'=> ?_⟩
   simp only[List.append_assoc,h1,Res.bind,h2]
 ·intro t t' e0
  have e: (P t).bind Q= .bad:=e0
  clear e0
  show(P (t++t')).bind Q= .bad
  cases hp:P t with
  |short=>rw[hp] at e;simp[Res.bind] at e
  |bad=>rw[h.bad t t' hp];rfl
  |ok y r1=>
   rw[hp] at e
   simp only[Res.bind] at e
   obtain⟨u1,rfl,h1⟩:=h.ok t y r1 hp
   rw[List.append_assoc,h1]
   exact(k y).bad r1 t' e
theorem Good.pure {α:Type} (x:α):Good fun t=>Res.ok x t:=
 ⟨fun t y r e=> (by cases e;exact⟨[],rfl,fun _=>rfl⟩),fun t t' e=> (by cases e)⟩
def Uq (t:Br):List Br:=
 match B1c t with
 | .ok x _=>x
 | .short=> []
 | .bad=> []
def Bad:Br→Nat→Int→Option Int
 | [],_,n=>some n
 |c::r,i,n=>if Bbw c=true then Bad r (i+1) (if i<10 then n*10+((c.toNat:Int) - 48) else n) else none
def Bae (s:Br):Int:=
 match Bad s 0 0 with
 |none=> -1
 |some n=>if s.length<1∨10<s.length∨(1<s.length∧s.getD 0 0=48) then -1 else n
theorem B0y {c:UInt8} (h:Bbw c=true):48≤c.toNat∧c.toNat≤57:=by
 simpa[Bbw] using h
def Bnl (xs:List Br):Prop:=(∀x∈xs,x.length≤40)∧1≤xs.length∧xs.length≤8
end Go.Proofs.YtpajcoanfkeibaaGreatDoor.Code
namespace Go.Proofs.YtpajcoanfkeibaaGreatDoor.Code
open Go Go.Ev Go.Proofs
theorem B7j (a b:UInt8): ((a.toNat:Int)=(b.toNat:Int))↔a=b:=by
 constructor
 ·intro h;exact UInt8.toNat_inj.1 (by omega)
 ·rintro rfl;rfl
structure Stop (low high:Int) (s:Br) (k n0:Nat) (n:Int) (k1:Nat) (n1:Int) (sh bd:Bool):Prop where
 le:k1≤s.length
 ge:n0≤k1
 say: (sh=false∧bd=false∧(∃c t,s.drop k1=c::t∧Bbw c=false)∧Bph low high (s.drop k) n (decide (k=n0))=Bph low high (s.drop k1) n1 (decide (k1=n0)))∨(sh=true∧bd=false∧Bph low high (s.drop k) n (decide (k=n0))= .short)∨(sh=false∧bd=true∧Bph low high (s.drop k) n (decide (k=n0))= .bad)
theorem Bot {s:Br} {k:Nat} (hk:k<s.length):s.drop k=s.getD k 0::s.drop (k+1):=by
 rw[Cda,Cdh hk]
 exact List.drop_eq_getElem_cons hk
theorem Bsz (n0:Nat) (s:Br) (hs:s.length≤1000000000000) (H:Hp): ∀ (m i:Nat) (n:Int) (e:Env),i+m=s.length→0≤n→n<10 ^ (min i 10)→e.get 0= .d (.str s)→e.get 3= .d (.int .i64 n)→e.get 4= .d (.int .i64 i)→
  ∃e',Bg (Bq (ev R) R.glob n0 Bg Rh) [0,3,4] ⟨e,H⟩=some ((match Bad (s.drop i) i n with|none=> .ret|some _=> .exit 0),⟨e',H⟩)∧
   (Bad (s.drop i) i n=none→e'.get 2= .d (.int .i64 (-1)))∧(∀v,Bad (s.drop i) i n=some v→e'.get 0= .d (.str s)∧e'.get 3= .d (.int .i64 v))
 |0,i,n,e,hi,hn,hn2,h0,h3,h4=>by
  have c: ¬ (i:Int)< (s.length:Int):=by omega
  have c': ¬i<s.length:=by omega
  rw[List.drop_of_length_le (by omega),Bv]
  refine⟨?_, ?_, ?_, ?_⟩
  rotate_left
  ·simp[Cm,-Cda,-Cdb,Rh,h0,h3,h4,c,c',Bad]
   try rfl
  ·intro h;simp[Bad] at h
  ·intro v h
   simp only[Bad,Option.some.injEq] at h
   subst h
   constructor
   ·simp[Cm,-Cda,-Cdb,h0]
   ·simp[Cm,-Cda,-Cdb,h3]
 |m+1,i,n,e,hi,hn,hn2,h0,h3,h4=>by
  have hil:i<s.length:=by omega
  have c: (i:Int)< (s.length:Int):=by omega
  have hd:=Bot hil
  obtain⟨b,hb⟩: ∃b,s.getD i 0=b:=⟨_,rfl⟩
  rw[hb] at hd
  have b255:=b.toNat_lt
  have w1:IntKind.i64.wrap ((i:Int)+1)=((i+1:Nat):Int):=by rw[IntWalk.i64_in _ (by omega)];rfl
  rw[hd]
  simp only[Bad]
  cases g:Bbw b with
  |false=>
   simp only[Bool.false_eq_true,if_false]
   rw[Bv]
   refine⟨?_, ?_, ?_, ?_⟩
   rotate_left
   ·by_cases d1: (b.toNat:Int)<48
    ·simp[Cm,-Cda,-Cdb,Rh,h0,h3,h4,c,hil,hb,d1]
     try rfl
    ·have d2:57< (b.toNat:Int):=by
      simp only[Bbw,Bool.and_eq_false_iff,decide_eq_false_iff_not] at g
      omega
     simp[Cm,-Cda,-Cdb,Rh,h0,h3,h4,c,hil,hb,d1,d2]
     try rfl
   ·intro _;simp[Cm,-Cda,-Cdb]
   ·intro v h;simp at h
  |true=>
   have bb:=B0y g
   have d1: ¬ (b.toNat:Int)<48:=by omega
   have d2: ¬57< (b.toNat:Int):=by omega
   simp only[if_true]
   by_cases ten:i<10
   ·have ten': (i:Int)<10:=by omega
    have m1:min i 10=i:=by omega
    have m2:min (i+1) 10=i+1:=by omega
    rw[m1] at hn2
    have pw: (10:Int) ^ (i+1)=10 ^ i*10:=Int.pow_succ ..
    have p9: (10:Int) ^ i≤1000000000:=by
     have: (10:Nat) ^ i≤10 ^ 9:=Nat.pow_le_pow_right (by omega) (by omega)
     have e: ((10 ^ i:Nat):Int)=(10:Int) ^ i:=by simp
     omega
    have w2:IntKind.i64.wrap (n*10)=n*10:=IntWalk.i64_in _ (by omega)
    have w3:IntKind.u8.wrap ((b.toNat:Int) - 48)=(b.toNat:Int) - 48:=IntWalk.u8_in _ (by omega)
    have w4:IntKind.i64.wrap ((b.toNat:Int) - 48)=(b.toNat:Int) - 48:=IntWalk.i64_in _ (by omega)
    have w5:IntKind.i64.wrap (n*10+((b.toNat:Int) - 48))=n*10+((b.toNat:Int) - 48):=IntWalk.i64_in _ (by omega)
    have ih:=Bsz n0 s hs H m (i+1) (n*10+((b.toNat:Int) - 48))
    rw[m2,pw] at ih
    rw[if_pos ten]
    generalize Bad (s.drop (i+1)) (i+1) (n*10+((b.toNat:Int) - 48))=FL at ih⊢
    obtain⟨x,hx⟩: ∃x,n*10+((b.toNat:Int) - 48)=x:=⟨_,rfl⟩
    rw[hx] at ih
    have w5:=w5.trans hx
    rw[Bv]
    generalize Bg (Bq (ev R) R.glob n0 Bg Rh) [0,3,4]=F at ih⊢
    simp[Cm,-Cda,-Cdb,Rh,h0,h3,h4,c,hil,hb,d1,d2,ten,ten',w1,w2,w3,w4,w5]
    refine ih _ (by omega) (by omega) (by omega) ?_ ?_ ?_<;>rfl
   ·have ten': ¬ (i:Int)<10:=by omega
    have m1:min i 10=10:=by omega
    have m2:min (i+1) 10=10:=by omega
    rw[m1] at hn2
    have ih:=Bsz n0 s hs H m (i+1) n
    rw[m2] at ih
    rw[if_neg ten]
    generalize Bad (s.drop (i+1)) (i+1) n=FL at ih⊢
    rw[Bv]
    generalize Bg (Bq (ev R) R.glob n0 Bg Rh) [0,3,4]=F at ih⊢
    simp[Cm,-Cda,-Cdb,Rh,h0,h3,h4,c,hil,hb,d1,d2,ten,ten',w1]
    refine ih _ (by omega) (by omega) (by omega) ?_ ?_ ?_<;>rfl
theorem Bzr (H:Hp) (s:Br) (hs:s.length≤1000000000000):ev R 253 [.d (.str s)] H=some (.d (.int .i64 (Bae s)),H):=by
 refine Bh (fn:=f253) rfl rfl ?_
 obtain⟨e',he,h1,h2⟩:=Bsz (Bc H) s hs H s.length 0 0 [(0, .d (.str s)),(3, .d (.int .i64 0)),(4, .d (.int .i64 0))] (by omega) (by omega) (by simp) rfl rfl rfl
 simp only[List.drop_zero] at he h1 h2
 unfold Bae
 cases hr:Bad s 0 0 with
 |none=>
  simp only[hr] at he
  simp[Cm,-Cda,-Cdb,f253,he,h1 hr]
 |some v=>
  simp only[hr] at he
  obtain⟨g0,g3⟩:=h2 v hr
  have p:=Pt (s.length:Int) 1 10
  by_cases c1:s.length<1
  ·have q: (decide ((s.length:Int)≥1) &&decide ((s.length:Int)≤10))=false:=by simp;omega
   rw[q] at p
   simp[Cm,-Cda,-Cdb,f253,he,g0,g3,p,c1]
  ·by_cases c2:10<s.length
   ·have q: (decide ((s.length:Int)≥1) &&decide ((s.length:Int)≤10))=false:=by simp;omega
    rw[q] at p
    simp[Cm,-Cda,-Cdb,f253,he,g0,g3,p,c1,c2]
   ·have q: (decide ((s.length:Int)≥1) &&decide ((s.length:Int)≤10))=true:=by simp;omega
    rw[q] at p
    have k0:0<s.length:=by omega
    have k0': (0:Int)< (s.length:Int):=by omega
    by_cases c3:1<s.length
    ·have c3': (1:Int)< (s.length:Int):=by omega
     have u: ((s.getD 0 0).toNat:Int)=48↔s.getD 0 0=48:=B7j _ 48
     by_cases c4:s.getD 0 0=48
     ·simp[Cm,-Cda,-Cdb,f253,he,g0,g3,p,c1,c2,c3,c3',k0,k0',c4]
     ·have c4': ¬ ((s.getD 0 0).toNat:Int)=48:=fun h=>c4 (u.1 h)
      simp[Cm,-Cda,-Cdb,f253,he,g0,g3,p,c1,c2,c3,c3',k0,k0',c4,c4']
    ·have c3': ¬ (1:Int)< (s.length:Int):=by omega
     simp[Cm,-Cda,-Cdb,f253,he,g0,g3,p,c1,c2,c3,c3',k0,k0']
def Dw (s:Br):Int×Bool:=
 if 1<s.length∧s.getD 0 0=45 then(if 1≤Bae (s.drop 1)∧Bae (s.drop 1)≤1000000000 then(-Bae (s.drop 1),true) else(0,false))
 else(if 0≤Bae s∧Bae s≤1000000000 then(Bae s,true) else(0,false))
theorem B22 (H:Hp) (s:Br) (hs:s.length≤1000000000000):ev R 203 [.d (.str s)] H=some (.tup [.d (.int .i64 (Dw s).1), .d (.bool (Dw s).2)],H):=by
 refine Bh (fn:=f203) rfl rfl ?_
 have q:=Pt (Bae s) 0 1000000000
 have q1:=Pt (Bae (s.drop 1)) 1 1000000000
 have p:=Bb (cl:=ev R) fun H=>Bzr H s hs
 have p1:=Bb (cl:=ev R) fun H=>Bzr H (s.drop 1) (by simp;omega)
 rw[List.drop_one] at p1 q1
 unfold Dw
 rw[List.drop_one]
 generalize Bae s.tail=f1 at q1 p1⊢
 generalize Bae s=f at q p⊢
 have tl:s.take s.length=s:=List.take_length
 obtain⟨b,hb⟩: ∃b,s.getD 0 0=b:=⟨_,rfl⟩
 by_cases c:1<s.length
 ·have c': (1:Int)< (s.length:Int):=by omega
  have c0: (0:Int)< (s.length:Int):=by omega
  have c1: (1:Int)≤(s.length:Int):=by omega
  have c2:0<s.length:=by omega
  have c3:1≤s.length:=by omega
  have c4:s≠[]:=by rintro rfl;simp at c
  by_cases d:b=45
  ·subst d
   by_cases e1:1≤f1
   ·by_cases e2:f1≤1000000000
    ·have w:IntKind.i64.wrap (-f1)= -f1:=IntWalk.i64_in _ (by omega)
     simp[Cm,-Cda,-Cdb,f203,c,c',c0,c1,c2,c3,c4,hb,Db,q1,p1,e1,e2,w]
    ·simp[Cm,-Cda,-Cdb,f203,c,c',c0,c1,c2,c3,c4,hb,Db,q1,p1,e1,e2]
   ·simp[Cm,-Cda,-Cdb,f203,c,c',c0,c1,c2,c3,c4,hb,Db,q1,p1,e1]
  ·have d': ¬ ((b.toNat:Nat):Int)=45:=fun h=>d (UInt8.toNat_inj.1 (by rw[show(45:UInt8).toNat=45 from rfl];omega))
   have d'': ¬b.toNat=45:=fun h=>d' (by omega)
   by_cases e1:0≤f
   ·by_cases e2:f≤1000000000
    ·simp[Cm,-Cda,-Cdb,f203,c,c',c0,c1,c2,c3,c4,hb,Db,q,p,e1,e2,d,d',d'']
    ·simp[Cm,-Cda,-Cdb,f203,c,c',c0,c1,c2,c3,c4,hb,Db,q,p,e1,e2,d,d',d'']
   ·simp[Cm,-Cda,-Cdb,f203,c,c',c0,c1,c2,c3,c4,hb,Db,q,p,e1,d,d',d'']
 ·have c': ¬ (1:Int)< (s.length:Int):=by omega
  by_cases e1:0≤f
  ·by_cases e2:f≤1000000000
   ·simp[Cm,-Cda,-Cdb,f203,c,c',q,p,e1,e2]
   ·simp[Cm,-Cda,-Cdb,f203,c,c',q,p,e1,e2]
  ·simp[Cm,-Cda,-Cdb,f203,c,c',q,p,e1]
def Qp (z:Int):Br:=if z<0 then 45::Sk z.natAbs else Sk z.toNat
theorem B3g (H:Hp) (z:Int) (h: -1000000000≤z∧z≤1000000000):ev R 68 [.d (.int .i64 z)] H=some (.d (.str (Qp z)),H):=by
 unfold Qp
 by_cases c:z<0
 ·rw[if_pos c]
  refine Bh (fn:=f68) rfl rfl ?_
  obtain⟨n,hn⟩: ∃n:Nat,z.natAbs=n:=⟨_,rfl⟩
  have hz: -z=(n:Int):=by omega
  have c1: ¬z< -9223372036854775807:=by omega
  have w:IntKind.i64.wrap (-z)=(n:Int):=by rw[IntWalk.i64_in _ (by omega)];exact hz
  have p:=Bb (cl:=ev R) fun H=>B3f n H (by omega)
  have dl:=Bhb n
  have l:1+(Sk n).length≤Kl:=by unfold Kl;omega
  rw[hn]
  generalize Sk n=x at*
  generalize(n:Int)=N at*
  simp[Cm,-Cda,-Cdb,f68,c,c1,w,p,l]
 ·rw[if_neg c]
  obtain⟨n,rfl⟩:=Int.eq_ofNat_of_zero_le (show 0≤z by omega)
  exact B3f n H (by omega)
end Go.Proofs.YtpajcoanfkeibaaGreatDoor.Code
