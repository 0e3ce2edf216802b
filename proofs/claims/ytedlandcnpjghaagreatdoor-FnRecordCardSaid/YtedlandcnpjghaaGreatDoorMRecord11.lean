/- Lemmas (several texts in one). -/
import Derived.Test.YtedlandcnpjghaaGreatDoorMRecord7
import Derived.Test.YtedlandcnpjghaaGreatDoorMRecord8
import Derived.Test.YtedlandcnpjghaaGreatDoorMRecord10
set_option maxRecDepth 100000
set_option linter.unusedSimpArgs false
set_option linter.unusedVariables false
namespace Go.Proofs.YtedlandcnpjghaaGreatDoor.Code
open Go Go.Ev Go.Proofs
def wr (s:Bl) (at':Nat) (sh bd:Bool):Ev.Obj:= .row 0 4 [.d (.agg [.str s, .int .i64 at', .bool sh, .bool bd])]
theorem Bge {H:Hp} {r:Nat} {s:Bl} {k:Nat} {sh bd:Bool} (h:Ci H r=some (wr s k sh bd)):Ct H r 0=some (4,[.d (.agg [.str s, .int .i64 k, .bool sh, .bool bd])]):=by
 simp[Ct,h,wr]
theorem Kz {H:Hp} {r:Nat} {s:Bl} {k:Nat} {sh bd:Bool} (h:Ci H r=some (wr s k sh bd)):Gh H r 0 0 0 1=some [.d (.str s)]∧Gh H r 0 0 1 1=some [.d (.int .i64 k)]∧Gh H r 0 0 2 1=some [.d (.bool sh)]∧Gh H r 0 0 3 1=some [.d (.bool bd)]:=by
 simp[Gh,Bge h,V.cells]
theorem Us {H:Hp} {r:Nat} {s:Bl} {k:Nat} {sh bd:Bool} (h:Ci H r=some (wr s k sh bd)) (k':Nat) (z:Int) (hz:z=k'):Me H r 0 0 1 [.d (.int .i64 z)]=some (Bv H r (wr s k' sh bd)):=by
 subst hz
 simp[Me,Bge h,V.cells,Pp,V.isAgg,M4,Gi,wr]
theorem Zh {H:Hp} {r:Nat} {s:Bl} {k:Nat} {sh bd:Bool} (h:Ci H r=some (wr s k sh bd)) (b:Bool):Me H r 0 0 2 [.d (.bool b)]=some (Bv H r (wr s k b bd)):=by
 simp[Me,Bge h,V.cells,Pp,V.isAgg,M4,Gi,wr]
theorem Ut {H:Hp} {r:Nat} {s:Bl} {k:Nat} {sh bd:Bool} (h:Ci H r=some (wr s k sh bd)) (b:Bool):Me H r 0 0 3 [.d (.bool b)]=some (Bv H r (wr s k sh b)):=by
 simp[Me,Bge h,V.cells,Pp,V.isAgg,M4,Gi,wr]
theorem Bd8 {H:Hp} {r:Nat} {o:Ev.Obj} (h:Ci H r=some o):Bv H r o=H:=by
 induction H generalizing r with
 |nil=>rfl
 |cons a H ih=>
  cases r with
  |zero=>simp only[Ci,Option.some.injEq] at h;subst h;rfl
  |succ r=>exact congrArg (List.cons a) (ih h)
theorem Lf {H:Hp} {r:Nat} {o:Ev.Obj} :Du (Bv H r o) (Bc H)=Bv H r o:=by
 have:=Lc (Bv H r o)
 rwa[Br] at this
def Da (s:Bl) (k:Nat) (sh bd:Bool) (b:UInt8):Nat×Bool×Bool:=
 if(sh||bd)=true then(k,sh,bd) else if k=s.length then(k,true,false) else if s.getD k 0=b then(k+1,false,false) else(k,false,true)
theorem Byb (a b:UInt8): ((a.toNat:Int)=(b.toNat:Int))↔a=b:=by
 constructor
 ·intro h;exact UInt8.toNat_inj.1 (by omega)
 ·rintro rfl;rfl
theorem Buy (H:Hp) (r:Nat) (s:Bl) (k:Nat) (sh bd:Bool) (b:UInt8) (bi:Int) (hbi:bi=b.toNat) (h:Ci H r=some (wr s k sh bd)) (hk:k≤s.length) (hs:s.length≤1000000000000):ev R 31 [.ptr r 0 0 0, .d (.int .u8 bi)] H=some (.tup [],Bv H r (wr s (Da s k sh bd b).1 (Da s k sh bd b).2.1 (Da s k sh bd b).2.2)):=by
 refine Bo (fn:=f31) rfl rfl ?_
 obtain⟨a0,a1,a2,a3⟩:=Kz h
 unfold Da
 by_cases h1: (sh||bd)=true
 ·have same:=Bd8 h
  cases sh with
  |true=>simp[Ck,-List.getD_eq_getElem?_getD,-List.map_map,f31,a0,a1,a2,a3,same]
  |false=>
   simp only[Bool.false_or] at h1
   subst h1
   simp[Ck,-List.getD_eq_getElem?_getD,-List.map_map,f31,a0,a1,a2,a3,same]
 ·simp only[Bool.not_eq_true,Bool.or_eq_false_iff] at h1
  obtain⟨rfl,rfl⟩:=h1
  by_cases h2:k=s.length
  ·have st:=Zh h true
   subst h2
   simp[Ck,-List.getD_eq_getElem?_getD,-List.map_map,f31,a0,a1,a2,a3,st,Lf]
  ·have h2': ¬ (k:Int)=s.length:=by omega
   have c:k<s.length:=by omega
   have c': (k:Int)<s.length:=by omega
   by_cases h3:s.getD k 0=b
   ·have w1:IntKind.i64.wrap ((k:Int)+1)=(k:Int)+1:=IntWalk.i64_in _ (by omega)
    have st:=Us h (k+1) ((k:Int)+1) (by omega)
    have h3': (b.toNat:Int)=bi:=hbi.symm
    simp[Ck,-List.getD_eq_getElem?_getD,-List.map_map,f31,a0,a1,a2,a3,st,Lf,h2,h2',c,c',h3,h3',w1]
   ·have st:=Ut h true
    have h3': ¬ ((s.getD k 0).toNat:Int)=bi:=by rw[hbi,Byb];exact h3
    simp[Ck,-List.getD_eq_getElem?_getD,-List.map_map,f31,a0,a1,a2,a3,st,Lf,h2,h2',c,c',h3,h3']
structure Stop (low high:Int) (s:Bl) (k n0:Nat) (n:Int) (k1:Nat) (n1:Int) (sh bd:Bool):Prop where
 le:k1≤s.length
 ge:n0≤k1
 say: (sh=false∧bd=false∧(∃c t,s.drop k1=c::t∧L8 c=false)∧Jj low high (s.drop k) n (decide (k=n0))=Jj low high (s.drop k1) n1 (decide (k1=n0)))∨(sh=true∧bd=false∧Jj low high (s.drop k) n (decide (k=n0))= .short)∨(sh=false∧bd=true∧Jj low high (s.drop k) n (decide (k=n0))= .bad)
theorem Blr (n0:Nat) (r:Nat) (s:Bl) (X:Hp) (k:Nat) (sh bd:Bool) (h:Ci X r=some (wr s k sh bd)) (hb: (sh||bd)=true) (low high n z:Int) (e:Env) (h0:e.get 0= .ptr r 0 0 0) (h2:e.get 2= .d (.int .i64 low)) (h3:e.get 3= .d (.int .i64 high)) (h9:e.get 9= .d (.int .i64 n)) (h10:e.get 10= .d (.int .i64 z)):
  ∃e',Bg (Bp (ev R) R.glob n0 Bg Nk) [0,2,3,9,10] ⟨e,X⟩=some (.exit 0,⟨e',X⟩)∧e'.get 0= .ptr r 0 0 0∧e'.get 9= .d (.int .i64 n)∧e'.get 10= .d (.int .i64 z):=by
 obtain⟨a0,a1,a2,a3⟩:=Kz h
 rw[Bw]
 refine⟨?_, ?_, ?_, ?_, ?_⟩
 rotate_left
 ·cases sh with
  |true=>
   simp[Ck,-List.getD_eq_getElem?_getD,-List.map_map,Nk,h0,h2,h3,h9,h10,a0,a1,a2,a3]
   try rfl
  |false=>
   simp only[Bool.false_or] at hb
   subst hb
   simp[Ck,-List.getD_eq_getElem?_getD,-List.map_map,Nk,h0,h2,h3,h9,h10,a0,a1,a2,a3]
   try rfl
 ·simp[Ck,-List.getD_eq_getElem?_getD,-List.map_map,h0]
 ·simp[Ck,-List.getD_eq_getElem?_getD,-List.map_map,h9]
 ·simp[Ck,-List.getD_eq_getElem?_getD,-List.map_map,h10]
def P53 (r:Nat) (s:Bl) (X:Hp) (low high:Int) (from0 k:Nat) (n:Int) (o:Option (Out×St)):Prop:=
 ∃e' k1 n1 sh bd,o=some (.exit 0,⟨e',Bv X r (wr s k1 sh bd)⟩)∧e'.get 0= .ptr r 0 0 0∧e'.get 9= .d (.int .i64 n1)∧e'.get 10= .d (.int .i64 from0)∧Stop low high s k from0 n k1 n1 sh bd
theorem B1f (n0:Nat) (r:Nat) (s:Bl) (low high:Int) (from0:Nat) (hlow:0≤low) (hhigh:high≤1000) (hs:s.length≤1000000000000): ∀ (m:Nat) (X:Hp) (k:Nat) (n:Int) (e:Env),Ci X r=some (wr s k false false)→k+m=s.length→from0≤k→0≤n→n≤1000→e.get 0= .ptr r 0 0 0→e.get 2= .d (.int .i64 low)→e.get 3= .d (.int .i64 high)→e.get 9= .d (.int .i64 n)→e.get 10= .d (.int .i64 from0)→
  P53 r s X low high from0 k n (Bg (Bp (ev R) R.glob n0 Bg Nk) [0,2,3,9,10] ⟨e,X⟩)
 |0,X,k,n,e,h,hk,hf,hn,hn2,h0,h2,h3,h9,h10=>by
  obtain⟨a0,a1,a2,a3⟩:=Kz h
  have hk':k=s.length:=by omega
  have st:=Zh h true
  have hd:s.drop k=[]:=List.drop_of_length_le (by omega)
  subst hk'
  rw[Bw]
  unfold P53
  refine⟨?_,s.length,n,true,false, ?_, ?_, ?_, ?_,⟨Nat.le_refl _,hf, .inr (.inl ⟨rfl,rfl,by rw[hd];rfl⟩)⟩⟩
  rotate_left
  ·simp[Ck,-List.getD_eq_getElem?_getD,-List.map_map,Nk,h0,h2,h3,h9,h10,a0,a1,a2,a3,st]
   try rfl
  ·simp[Ck,-List.getD_eq_getElem?_getD,-List.map_map,h0]
  ·simp[Ck,-List.getD_eq_getElem?_getD,-List.map_map,h9]
  ·simp[Ck,-List.getD_eq_getElem?_getD,-List.map_map,h10]
 |m+1,X,k,n,e,h,hk,hf,hn,hn2,h0,h2,h3,h9,h10=>by
  obtain⟨a0,a1,a2,a3⟩:=Kz h
  have hkl:k<s.length:=by omega
  have c1: ¬k=s.length:=by omega
  have c1': ¬ (k:Int)=(s.length:Int):=by omega
  have c2: (k:Int)< (s.length:Int):=by omega
  obtain⟨c,hc⟩: ∃c,s.getD k 0=c:=⟨_,rfl⟩
  have hd:s.drop k=c::s.drop (k+1):=by
   rw[←hc,List.getD_eq_getElem?_getD,List.getElem?_eq_getElem hkl]
   exact List.drop_eq_getElem_cons hkl
  have hc255:=c.toNat_lt
  cases g:L8 c with
  |false=>
   have same:=Bd8 h
   rw[Bw]
   unfold P53
   refine⟨?_,k,n,false,false, ?_, ?_, ?_, ?_,⟨by omega,hf, .inl ⟨rfl,rfl,⟨c,_,hd,g⟩,rfl⟩⟩⟩
   rotate_left
   ·rw[same]
    by_cases d1: (c.toNat:Int)<48
    ·simp[Ck,-List.getD_eq_getElem?_getD,-List.map_map,Nk,h0,h2,h3,h9,h10,a0,a1,a2,a3,c1,c1',c2,hkl,hc,d1]
     try rfl
    ·have d2:57< (c.toNat:Int):=by
      simp only[L8,Bool.and_eq_false_iff,decide_eq_false_iff_not] at g
      omega
     simp[Ck,-List.getD_eq_getElem?_getD,-List.map_map,Nk,h0,h2,h3,h9,h10,a0,a1,a2,a3,c1,c1',c2,hkl,hc,d1,d2]
     try rfl
   ·simp[Ck,-List.getD_eq_getElem?_getD,-List.map_map,h0]
   ·simp[Ck,-List.getD_eq_getElem?_getD,-List.map_map,h9]
   ·simp[Ck,-List.getD_eq_getElem?_getD,-List.map_map,h10]
  |true=>
   have b:=Md g
   have d1: ¬ (c.toNat:Int)<48:=by omega
   have d2: ¬57< (c.toNat:Int):=by omega
   by_cases z:from0<k∧n=0
   ·have st:=Ut h true
    obtain⟨z1,rfl⟩:=z
    have z1': (from0:Int)< (k:Int):=by omega
    have z2: ¬k=from0:=by omega
    rw[Bw]
    unfold P53
    refine⟨?_,k,0,false,true, ?_, ?_, ?_, ?_,⟨by omega,hf, .inr (.inr ⟨rfl,rfl,by rw[hd];simp[Jj,g,z2]⟩)⟩⟩
    rotate_left
    ·simp[Ck,-List.getD_eq_getElem?_getD,-List.map_map,Nk,h0,h2,h3,h9,h10,a0,a1,a2,a3,c1,c1',c2,hkl,hc,d1,d2,z1,z1',st]
     try rfl
    ·simp[Ck,-List.getD_eq_getElem?_getD,-List.map_map,h0]
    ·simp[Ck,-List.getD_eq_getElem?_getD,-List.map_map,h9]
    ·simp[Ck,-List.getD_eq_getElem?_getD,-List.map_map,h10]
   ·have w1:IntKind.i64.wrap (10*n)=10*n:=IntWalk.i64_in _ (by omega)
    have w2:IntKind.u8.wrap ((c.toNat:Int) - 48)=(c.toNat:Int) - 48:=IntWalk.u8_in _ (by omega)
    have w3:IntKind.i64.wrap ((c.toNat:Int) - 48)=(c.toNat:Int) - 48:=IntWalk.i64_in _ (by omega)
    have w4:IntKind.i64.wrap (10*n+((c.toNat:Int) - 48))=Gg n c:=by unfold Gg;exact IntWalk.i64_in _ (by omega)
    have w5:IntKind.i64.wrap ((k:Int)+1)=(k:Int)+1:=IntWalk.i64_in _ (by omega)
    have p:=Boe (Gg n c) low high
    have z1: (if decide (k=from0)=false∧n=0 then Res.bad else if low≤Gg n c∧Gg n c≤high then Jj low high (s.drop (k+1)) (Gg n c) false else .bad)=(if low≤Gg n c∧Gg n c≤high then Jj low high (s.drop (k+1)) (Gg n c) false else .bad):=by
     rw[if_neg]
     rintro⟨q1,q2⟩
     simp only[decide_eq_false_iff_not] at q1
     exact z ⟨by omega,q2⟩
    have st1:=Us h (k+1) ((k:Int)+1) (by omega)
    have hr:=Fh h
    have kn: (decide (k+1=from0))=false:=by simp;omega
    by_cases win:low≤Gg n c∧Gg n c≤high
    ·have ih:=B1f n0 r s low high from0 hlow hhigh hs m (Bv X r (wr s (k+1) false false)) (k+1) (Gg n c)
     rw[Bw]
     generalize Bg (Bp (ev R) R.glob n0 Bg Nk) [0,2,3,9,10]=F at ih⊢
     have key: ∀e,e.get 0= .ptr r 0 0 0→e.get 2= .d (.int .i64 low)→e.get 3= .d (.int .i64 high)→e.get 9= .d (.int .i64 (Gg n c))→e.get 10= .d (.int .i64 from0)→P53 r s X low high from0 k n (F ⟨e,Bv X r (wr s (k+1) false false)⟩):=by
      intro e g0 g2 g3 g9 g10
      obtain⟨e',k1,n1,sh,bd,he,q0,q9,q10,st⟩:=ih e (Ch _ hr) (by omega) (by omega) (by omega) (by omega) g0 g2 g3 g9 g10
      rw[Jo] at he
      refine⟨e',k1,n1,sh,bd,he,q0,q9,q10,st.le,by have:=st.ge;omega, ?_⟩
      have say:=st.say
      rw[kn] at say
      rw[hd]
      simp only[Jj,g,if_true]
      rw[z1,if_pos win]
      exact say
     obtain⟨win1,win2⟩:=win
     by_cases z0:from0<k
     ·have z0': (from0:Int)< (k:Int):=by omega
      have z2: ¬n=0:=fun q=>z ⟨z0,q⟩
      simp[Ck,-List.getD_eq_getElem?_getD,-List.map_map,Nk,h0,h2,h3,h9,h10,a0,a1,a2,a3,c1,c1',c2,hkl,hc,d1,d2,z0,z0',z2,w1,w2,w3,w4,w5,p,win1,win2,st1]
      refine key _ ?_ ?_ ?_ ?_ ?_<;>rfl
     ·have z0': ¬ (from0:Int)< (k:Int):=by omega
      simp[Ck,-List.getD_eq_getElem?_getD,-List.map_map,Nk,h0,h2,h3,h9,h10,a0,a1,a2,a3,c1,c1',c2,hkl,hc,d1,d2,z0,z0',w1,w2,w3,w4,w5,p,win1,win2,st1]
      refine key _ ?_ ?_ ?_ ?_ ?_<;>rfl
    ·have st3:=Ut h true
     have hY:Ci (Bv X r (wr s k false true)) r=some (wr s k false true):=Ch _ hr
     obtain⟨y0,y1,y2,y3⟩:=Kz hY
     have st4:=Us hY (k+1) ((k:Int)+1) (by omega)
     rw[Jo] at st4
     have stop:=Blr n0 r s (Bv X r (wr s (k+1) false true)) (k+1) false true (Ch _ hr) rfl low high (Gg n c) from0
     rw[Bw]
     generalize Bg (Bp (ev R) R.glob n0 Bg Nk) [0,2,3,9,10]=F at stop⊢
     have key: ∀e,e.get 0= .ptr r 0 0 0→e.get 2= .d (.int .i64 low)→e.get 3= .d (.int .i64 high)→e.get 9= .d (.int .i64 (Gg n c))→e.get 10= .d (.int .i64 from0)→P53 r s X low high from0 k n (F ⟨e,Bv X r (wr s (k+1) false true)⟩):=by
      intro e g0 g2 g3 g9 g10
      obtain⟨e',he,q0,q9,q10⟩:=stop e g0 g2 g3 g9 g10
      refine⟨e',k+1,Gg n c,false,true,he,q0,q9,q10,by omega,by omega, .inr (.inr ⟨rfl,rfl, ?_⟩)⟩
      rw[hd]
      simp only[Jj,g,if_true]
      rw[z1,if_neg win]
     have win': (decide (Gg n c≥low) &&decide (Gg n c≤high))=false:=by
      by_cases q:low≤Gg n c
      ·have: ¬Gg n c≤high:=fun q2=>win ⟨q,q2⟩
       simp[this]
      ·simp[q]
     rw[win'] at p
     by_cases z0:from0<k
     ·have z0': (from0:Int)< (k:Int):=by omega
      have z2: ¬n=0:=fun q=>z ⟨z0,q⟩
      simp[Ck,-List.getD_eq_getElem?_getD,-List.map_map,Nk,h0,h2,h3,h9,h10,a0,a1,a2,a3,c1,c1',c2,hkl,hc,d1,d2,z0,z0',z2,w1,w2,w3,w4,w5,p,st3,y0,y1,y2,y3,st4]
      refine key _ ?_ ?_ ?_ ?_ ?_<;>rfl
     ·have z0': ¬ (from0:Int)< (k:Int):=by omega
      simp[Ck,-List.getD_eq_getElem?_getD,-List.map_map,Nk,h0,h2,h3,h9,h10,a0,a1,a2,a3,c1,c1',c2,hkl,hc,d1,d2,z0,z0',w1,w2,w3,w4,w5,p,st3,y0,y1,y2,y3,st4]
      refine key _ ?_ ?_ ?_ ?_ ?_<;>rfl
def Bjn (p:Res Int) (s:Bl) (n:Int) (k:Nat) (sh bd:Bool):Prop:=
 match p with
 | .ok m Jy=>m=n∧Jy=s.drop k∧sh=false∧bd=false
 | .short=>sh=true∧bd=false
 | .bad=>sh=false∧bd=true
theorem T9 {s:Bl} {k:Nat} (hk:k<s.length):s.drop k=s.getD k 0::s.drop (k+1):=by
 rw[List.getD_eq_getElem?_getD,List.getElem?_eq_getElem hk]
 exact List.drop_eq_getElem_cons hk
theorem Sd {s:Bl} {k:Nat} {sh bd:Bool} {b:UInt8} (hk:k≤s.length): (Da s k sh bd b).1≤s.length:=by
 unfold Da
 repeat' split
 all_goals (simp only;omega)
theorem B05 (H:Hp) (r:Nat) (s:Bl) (k:Nat) (mark:UInt8) (mi low high:Int) (hm:mi=mark.toNat) (hlow:0≤low) (hhigh:high≤1000) (h:Ci H r=some (wr s k false false)) (hk:k≤s.length) (hs:s.length≤1000000000):
  ∃n k' sh bd,ev R 30 [.ptr r 0 0 0, .d (.int .u8 mi), .d (.int .i64 low), .d (.int .i64 high)] H=some (.d (.int .i64 n),Bv H r (wr s k' sh bd))∧k'≤s.length∧Bjn (Jv mark low high (s.drop k)) s n k' sh bd:=by
 have hr:=Fh h
 have A: ∀k sh bd,Ci (Bv H r (wr s k sh bd)) r=some (wr s k sh bd):=fun k sh bd=>Ch _ hr
 have q0:=Buy H r s k false false mark mi hm h hk (by omega)
 have B: ∀ (k:Nat) (sh bd:Bool) (b:UInt8) (bi:Int),bi=b.toNat→k≤s.length→ev R 31 [.ptr r 0 0 0, .d (.int .u8 bi)] (Bv H r (wr s k sh bd))=some (.tup [],Bv H r (wr s (Da s k sh bd b).1 (Da s k sh bd b).2.1 (Da s k sh bd b).2.2)):=fun k sh bd b bi hb hk=>by
  have:=Buy (Bv H r (wr s k sh bd)) r s k sh bd b bi hb (A k sh bd) hk (by omega)
  rwa[Jo] at this
 have kb:=Sd (sh:=false) (bd:=false) (b:=mark) hk
 have LOOP: ∃e' k1 n1 sh bd,Bg (Bp (ev R) R.glob (Bc H) Bg Nk) [0,2,3,9,10] ⟨[(0, .ptr r 0 0 0),(2, .d (.int .i64 low)),(3, .d (.int .i64 high)),(9, .d (.int .i64 0)),(10, .d (.int .i64 (Da s k false false mark).1))],Bv H r (wr s (Da s k false false mark).1 (Da s k false false mark).2.1 (Da s k false false mark).2.2)⟩=some (.exit 0,⟨e',Bv H r (wr s k1 sh bd)⟩)∧e'.get 0= .ptr r 0 0 0∧e'.get 9= .d (.int .i64 n1)∧e'.get 10= .d (.int .i64 (Da s k false false mark).1)∧k1≤s.length∧
   ((sh=false∧bd=false∧(∃c t,s.drop k1=c::t∧L8 c=false)∧Jv mark low high (s.drop k)=Jj low high (s.drop k1) n1 (decide (k1=(Da s k false false mark).1)))∨(sh=true∧bd=false∧Jv mark low high (s.drop k)= .short)∨(sh=false∧bd=true∧Jv mark low high (s.drop k)= .bad)):=by
  by_cases h1:k=s.length
  ·have e:Da s k false false mark=(k,true,false):=by simp[Da,h1]
   rw[e]
   obtain⟨e',he,g0,g9,g10⟩:=Blr (Bc H) r s _ k true false (A k true false) rfl low high 0 k [(0, .ptr r 0 0 0),(2, .d (.int .i64 low)),(3, .d (.int .i64 high)),(9, .d (.int .i64 0)),(10, .d (.int .i64 k))] rfl rfl rfl rfl rfl
   exact⟨e',k,0,true,false,he,g0,g9,g10,hk, .inr (.inl ⟨rfl,rfl,by rw[List.drop_of_length_le (by omega)];rfl⟩)⟩
  ·have hd:=T9 (s:=s) (k:=k) (by omega)
   by_cases h2:s.getD k 0=mark
   ·have e:Da s k false false mark=(k+1,false,false):=by simp[Da,h1,h2,-List.getD_eq_getElem?_getD]
    rw[e]
    obtain⟨e',k1,n1,sh,bd,he,g0,g9,g10,st⟩:=B1f (Bc H) r s low high (k+1) hlow hhigh (by omega) (s.length - (k+1)) _ (k+1) 0 [(0, .ptr r 0 0 0),(2, .d (.int .i64 low)),(3, .d (.int .i64 high)),(9, .d (.int .i64 0)),(10, .d (.int .i64 ((k+1:Nat):Int)))] (A (k+1) false false) (by omega) (by omega) (by omega) (by omega) rfl rfl rfl rfl rfl
    rw[Jo] at he
    have hp:Jv mark low high (s.drop k)=Jj low high (s.drop (k+1)) 0 true:=by
     rw[hd,h2];simp[Jv,Fy,Res.bind]
    have say:=st.say
    simp only[decide_true] at say
    rw[←hp] at say
    exact⟨e',k1,n1,sh,bd,he,g0,g9,g10,st.le,say⟩
   ·have e:Da s k false false mark=(k,false,true):=by simp[Da,h1,h2,-List.getD_eq_getElem?_getD]
    rw[e]
    obtain⟨e',he,g0,g9,g10⟩:=Blr (Bc H) r s _ k false true (A k false true) rfl low high 0 k [(0, .ptr r 0 0 0),(2, .d (.int .i64 low)),(3, .d (.int .i64 high)),(9, .d (.int .i64 0)),(10, .d (.int .i64 k))] rfl rfl rfl rfl rfl
    exact⟨e',k,0,false,true,he,g0,g9,g10,hk, .inr (.inr ⟨rfl,rfl,by rw[hd];simp[Jv,Fy,Res.bind,h2,-List.getD_eq_getElem?_getD]⟩)⟩
 generalize Da s k false false mark=K at q0 kb LOOP
 obtain⟨e',k1,n1,sh,bd,he,g0,g9,g10,k1l,say⟩:=LOOP
 obtain⟨a0,a1,a2,a3⟩:=Kz (A K.1 K.2.1 K.2.2)
 obtain⟨b0,b1,b2,b3⟩:=Kz (A k1 sh bd)
 have T: ∀v k2 s2 d2,ev R 30 [.ptr r 0 0 0, .d (.int .u8 mi), .d (.int .i64 low), .d (.int .i64 high)] H=some (v,Bv H r (wr s k2 s2 d2))→v= .d (.int .i64 n1)→k2≤s.length→Bjn (Jv mark low high (s.drop k)) s n1 k2 s2 d2→∃n k' sh bd,ev R 30 [.ptr r 0 0 0, .d (.int .u8 mi), .d (.int .i64 low), .d (.int .i64 high)] H=some (.d (.int .i64 n),Bv H r (wr s k' sh bd))∧k'≤s.length∧Bjn (Jv mark low high (s.drop k)) s n k' sh bd:=fun v k2 s2 d2 e1 e2 e3 e4=>by
  subst e2
  exact⟨n1,k2,s2,d2,e1,e3,e4⟩
 by_cases hf:k1=K.1
 ·have hf': (k1:Int)=(K.1:Int):=by omega
  by_cases hsh:sh=true
  ·subst hsh
   have p13:=B k1 true bd 13 13 rfl k1l
   have Kn:Da s k1 true bd 13=(k1,true,bd):=by simp[Da]
   rw[Kn] at p13
   have p10:=B k1 true bd 10 10 rfl k1l
   have e10:Da s k1 true bd 10=(k1,true,bd):=by simp[Da]
   rw[e10] at p10
   refine T _ k1 true bd (Bo (fn:=f30) rfl rfl ?_) rfl k1l ?_
   ·simp[Ck,-List.getD_eq_getElem?_getD,-List.map_map,f30,q0,a0,a1,a2,a3,he,g0,g9,g10,b0,b1,b2,b3,hf',p13,p10,Lf]
   ·rcases say with⟨x,_⟩ | ⟨_,y,z⟩ | ⟨x,_⟩
    ·cases x
    ·rw[z];exact⟨rfl,y⟩
    ·cases x
  ·have hsh':sh=false:=by simpa using hsh
   subst hsh'
   have st:=Ut (A k1 false bd) true
   rw[Jo] at st
   have p13:=B k1 false true 13 13 rfl k1l
   have Kn:Da s k1 false true 13=(k1,false,true):=by simp[Da]
   rw[Kn] at p13
   have p10:=B k1 false true 10 10 rfl k1l
   have e10:Da s k1 false true 10=(k1,false,true):=by simp[Da]
   rw[e10] at p10
   refine T _ k1 false true (Bo (fn:=f30) rfl rfl ?_) rfl k1l ?_
   ·simp[Ck,-List.getD_eq_getElem?_getD,-List.map_map,f30,q0,a0,a1,a2,a3,he,g0,g9,g10,b0,b1,b2,b3,hf',st,p13,p10,Lf]
   ·rcases say with⟨_,_,⟨c,t,w1,w2⟩,z⟩ | ⟨x,_⟩ | ⟨_,y,z⟩
    ·rw[z,w1,hf]
     simp[Jj,w2,Bjn]
    ·cases x
    ·rw[z];exact⟨rfl,rfl⟩
 ·have hf': ¬ (k1:Int)=(K.1:Int):=by omega
  obtain⟨k13,s13,d13,Kn⟩: ∃k' s' d',Da s k1 sh bd 13=(k',s',d'):=⟨_,_,_,rfl⟩
  have Bhf:k13≤s.length:=by have:=Sd (s:=s) (sh:=sh) (bd:=bd) (b:=13) k1l;rw[Kn] at this;exact this
  have p13:=B k1 sh bd 13 13 rfl k1l
  rw[Kn] at p13
  obtain⟨k10,s10,d10,e10⟩: ∃k' s' d',Da s k13 s13 d13 10=(k',s',d'):=⟨_,_,_,rfl⟩
  have l10:k10≤s.length:=by have:=Sd (s:=s) (sh:=s13) (bd:=d13) (b:=10) Bhf;rw[e10] at this;exact this
  have p10:=B k13 s13 d13 10 10 rfl Bhf
  rw[e10] at p10
  refine T _ k10 s10 d10 (Bo (fn:=f30) rfl rfl ?_) rfl l10 ?_
  ·simp[Ck,-List.getD_eq_getElem?_getD,-List.map_map,f30,q0,a0,a1,a2,a3,he,g0,g9,g10,b0,b1,b2,b3,hf',p13,p10,Lf]
  ·rcases say with⟨rfl,rfl,⟨c,t,w1,w2⟩,z⟩ | ⟨rfl,rfl,z⟩ | ⟨rfl,rfl,z⟩
   ·have kl:k1<s.length:=by
     apply Classical.byContradiction
     intro hn
     rw[List.drop_of_length_le (by omega)] at w1
     cases w1
    have hd:=T9 kl
    have hc:s.getD k1 0=c:=by rw[hd] at w1;exact(List.cons.inj w1).1
    have hkf:decide (k1=K.1)=false:=by simpa using hf
    rw[z,hkf,hd,hc]
    have n1': ¬k1=s.length:=by omega
    by_cases c13:c=13
    ·subst c13
     have:Da s k1 false false 13=(k1+1,false,false):=by simp[Da,n1',hc,-List.getD_eq_getElem?_getD]
     rw[this] at Kn
     cases Kn
     simp only[Jj,w2,Bool.false_eq_true,if_false,if_true]
     by_cases q:k1+1=s.length
     ·have:Da s (k1+1) false false 10=(k1+1,true,false):=by simp[Da,q]
      rw[this] at e10
      cases e10
      rw[List.drop_of_length_le (by omega)]
      exact⟨rfl,rfl⟩
     ·have hd2:=T9 (s:=s) (k:=k1+1) (by omega)
      rw[hd2]
      by_cases c10:s.getD (k1+1) 0=10
      ·have:Da s (k1+1) false false 10=(k1+1+1,false,false):=by simp[Da,q,c10,-List.getD_eq_getElem?_getD]
       rw[this] at e10
       cases e10
       simp[Fy,c10,Res.bind,Bjn,-List.getD_eq_getElem?_getD]
      ·have:Da s (k1+1) false false 10=(k1+1,false,true):=by simp[Da,q,c10,-List.getD_eq_getElem?_getD]
       rw[this] at e10
       cases e10
       simp[Fy,c10,Res.bind,Bjn,-List.getD_eq_getElem?_getD]
    ·have:Da s k1 false false 13=(k1,false,true):=by simp[Da,n1',hc,c13,-List.getD_eq_getElem?_getD]
     rw[this] at Kn
     cases Kn
     have:Da s k1 false true 10=(k1,false,true):=by simp[Da]
     rw[this] at e10
     cases e10
     simp[Jj,w2,c13,Bjn]
   ·have:Da s k1 true false 13=(k1,true,false):=by simp[Da]
    rw[this] at Kn
    cases Kn
    have:Da s k1 true false 10=(k1,true,false):=by simp[Da]
    rw[this] at e10
    cases e10
    rw[z];exact⟨rfl,rfl⟩
   ·have:Da s k1 false true 13=(k1,false,true):=by simp[Da]
    rw[this] at Kn
    cases Kn
    have:Da s k1 false true 10=(k1,false,true):=by simp[Da]
    rw[this] at e10
    cases e10
    rw[z];exact⟨rfl,rfl⟩
theorem Brr (n0:Nat) (s:Bl) (hs:s.length≤1000000000000) (H:Hp): ∀ (m i:Nat) (n:Int) (e:Env),i+m=s.length→0≤n→n<10 ^ (min i 10)→e.get 0= .d (.str s)→e.get 3= .d (.int .i64 n)→e.get 4= .d (.int .i64 i)→
  ∃e',Bg (Bp (ev R) R.glob n0 Bg Q9) [0,3,4] ⟨e,H⟩=some ((match Sl (s.drop i) i n with|none=> .ret|some _=> .exit 0),⟨e',H⟩)∧
   (Sl (s.drop i) i n=none→e'.get 2= .d (.int .i64 (-1)))∧(∀v,Sl (s.drop i) i n=some v→e'.get 0= .d (.str s)∧e'.get 3= .d (.int .i64 v))
 |0,i,n,e,hi,hn,hn2,h0,h3,h4=>by
  have c: ¬ (i:Int)< (s.length:Int):=by omega
  have c': ¬i<s.length:=by omega
  rw[List.drop_of_length_le (by omega),Bw]
  refine⟨?_, ?_, ?_, ?_⟩
  rotate_left
  ·simp[Ck,-List.getD_eq_getElem?_getD,-List.map_map,Q9,h0,h3,h4,c,c',Sl]
   try rfl
  ·intro h;simp[Sl] at h
  ·intro v h
   simp only[Sl,Option.some.injEq] at h
   subst h
   constructor
   ·simp[Ck,-List.getD_eq_getElem?_getD,-List.map_map,h0]
   ·simp[Ck,-List.getD_eq_getElem?_getD,-List.map_map,h3]
 |m+1,i,n,e,hi,hn,hn2,h0,h3,h4=>by
  have hil:i<s.length:=by omega
  have c: (i:Int)< (s.length:Int):=by omega
  have hd:=T9 hil
  obtain⟨b,hb⟩: ∃b,s.getD i 0=b:=⟨_,rfl⟩
  rw[hb] at hd
  have b255:=b.toNat_lt
  have w1:IntKind.i64.wrap ((i:Int)+1)=((i+1:Nat):Int):=by rw[IntWalk.i64_in _ (by omega)];rfl
  rw[hd]
  simp only[Sl]
  cases g:L8 b with
  |false=>
   simp only[Bool.false_eq_true,if_false]
   rw[Bw]
   refine⟨?_, ?_, ?_, ?_⟩
   rotate_left
   ·by_cases d1: (b.toNat:Int)<48
    ·simp[Ck,-List.getD_eq_getElem?_getD,-List.map_map,Q9,h0,h3,h4,c,hil,hb,d1]
     try rfl
    ·have d2:57< (b.toNat:Int):=by
      simp only[L8,Bool.and_eq_false_iff,decide_eq_false_iff_not] at g
      omega
     simp[Ck,-List.getD_eq_getElem?_getD,-List.map_map,Q9,h0,h3,h4,c,hil,hb,d1,d2]
     try rfl
   ·intro _;simp[Ck,-List.getD_eq_getElem?_getD,-List.map_map]
   ·intro v h;simp at h
  |true=>
   have bb:=Md g
   have d1: ¬ (b.toNat:Int)<48:=by omega
   have d2: ¬57< (b.toNat:Int):=by omega
   simp only[if_true]
   by_cases ten:i<10
   ·have ten': (i:Int)<10:=by omega
    have m1:min i 10=i:=by omega
    have m2:min (i+1) 10=i+1:=by omega
    rw[m1] at hn2
    have pw: (10:Int) ^ (i+1)=10 ^ i*10:=Int.pow_succ ..
    have p9: (10:Int) ^ i≤1000000000:=by
     have: (10:Nat) ^ i≤10 ^ 9:=Nat.pow_le_pow_right (by omega) (by omega)
     have e: ((10 ^ i:Nat):Int)=(10:Int) ^ i:=by simp
     omega
    have w2:IntKind.i64.wrap (n*10)=n*10:=IntWalk.i64_in _ (by omega)
    have w3:IntKind.u8.wrap ((b.toNat:Int) - 48)=(b.toNat:Int) - 48:=IntWalk.u8_in _ (by omega)
    have w4:IntKind.i64.wrap ((b.toNat:Int) - 48)=(b.toNat:Int) - 48:=IntWalk.i64_in _ (by omega)
    have w5:IntKind.i64.wrap (n*10+((b.toNat:Int) - 48))=n*10+((b.toNat:Int) - 48):=IntWalk.i64_in _ (by omega)
    have ih:=Brr n0 s hs H m (i+1) (n*10+((b.toNat:Int) - 48))
    rw[m2,pw] at ih
    rw[if_pos ten]
    generalize Sl (s.drop (i+1)) (i+1) (n*10+((b.toNat:Int) - 48))=FL at ih⊢
    obtain⟨x,hx⟩: ∃x,n*10+((b.toNat:Int) - 48)=x:=⟨_,rfl⟩
    rw[hx] at ih
    have w5:=w5.trans hx
    rw[Bw]
    generalize Bg (Bp (ev R) R.glob n0 Bg Q9) [0,3,4]=F at ih⊢
    simp[Ck,-List.getD_eq_getElem?_getD,-List.map_map,Q9,h0,h3,h4,c,hil,hb,d1,d2,ten,ten',w1,w2,w3,w4,w5]
    refine ih _ (by omega) (by omega) (by omega) ?_ ?_ ?_<;>rfl
   ·have ten': ¬ (i:Int)<10:=by omega
    have m1:min i 10=10:=by omega
    have m2:min (i+1) 10=10:=by omega
    rw[m1] at hn2
    have ih:=Brr n0 s hs H m (i+1) n
    rw[m2] at ih
    rw[if_neg ten]
    generalize Sl (s.drop (i+1)) (i+1) n=FL at ih⊢
    rw[Bw]
    generalize Bg (Bp (ev R) R.glob n0 Bg Q9) [0,3,4]=F at ih⊢
    simp[Ck,-List.getD_eq_getElem?_getD,-List.map_map,Q9,h0,h3,h4,c,hil,hb,d1,d2,ten,ten',w1]
    refine ih _ (by omega) (by omega) (by omega) ?_ ?_ ?_<;>rfl
theorem Bxv (H:Hp) (s:Bl) (hs:s.length≤1000000000000):ev R 124 [.d (.str s)] H=some (.d (.int .i64 (Ra s)),H):=by
 refine Bo (fn:=f124) rfl rfl ?_
 obtain⟨e',he,h1,h2⟩:=Brr (Bc H) s hs H s.length 0 0 [(0, .d (.str s)),(3, .d (.int .i64 0)),(4, .d (.int .i64 0))] (by omega) (by omega) (by simp) rfl rfl rfl
 simp only[List.drop_zero] at he h1 h2
 unfold Ra
 cases hr:Sl s 0 0 with
 |none=>
  simp only[hr] at he
  simp[Ck,-List.getD_eq_getElem?_getD,-List.map_map,f124,he,h1 hr]
 |some v=>
  simp only[hr] at he
  obtain⟨g0,g3⟩:=h2 v hr
  have p:=Pi (s.length:Int) 1 10
  by_cases c1:s.length<1
  ·have q: (decide ((s.length:Int)≥1) &&decide ((s.length:Int)≤10))=false:=by simp;omega
   rw[q] at p
   simp[Ck,-List.getD_eq_getElem?_getD,-List.map_map,f124,he,g0,g3,p,c1]
  ·by_cases c2:10<s.length
   ·have q: (decide ((s.length:Int)≥1) &&decide ((s.length:Int)≤10))=false:=by simp;omega
    rw[q] at p
    simp[Ck,-List.getD_eq_getElem?_getD,-List.map_map,f124,he,g0,g3,p,c1,c2]
   ·have q: (decide ((s.length:Int)≥1) &&decide ((s.length:Int)≤10))=true:=by simp;omega
    rw[q] at p
    have k0:0<s.length:=by omega
    have k0': (0:Int)< (s.length:Int):=by omega
    by_cases c3:1<s.length
    ·have c3': (1:Int)< (s.length:Int):=by omega
     have u: ((s.getD 0 0).toNat:Int)=48↔s.getD 0 0=48:=Byb _ 48
     by_cases c4:s.getD 0 0=48
     ·simp[Ck,-List.getD_eq_getElem?_getD,-List.map_map,f124,he,g0,g3,p,c1,c2,c3,c3',k0,k0',c4]
     ·have c4': ¬ ((s.getD 0 0).toNat:Int)=48:=fun h=>c4 (u.1 h)
      simp[Ck,-List.getD_eq_getElem?_getD,-List.map_map,f124,he,g0,g3,p,c1,c2,c3,c3',k0,k0',c4,c4']
    ·have c3': ¬ (1:Int)< (s.length:Int):=by omega
     simp[Ck,-List.getD_eq_getElem?_getD,-List.map_map,f124,he,g0,g3,p,c1,c2,c3,c3',k0,k0']
def Dv (s:Bl):Int×Bool:=
 if 1<s.length∧s.getD 0 0=45 then(if 1≤Ra (s.drop 1)∧Ra (s.drop 1)≤1000000000 then(-Ra (s.drop 1),true) else(0,false))
 else(if 0≤Ra s∧Ra s≤1000000000 then(Ra s,true) else(0,false))
theorem B3t (H:Hp) (s:Bl) (hs:s.length≤1000000000000):ev R 86 [.d (.str s)] H=some (.tup [.d (.int .i64 (Dv s).1), .d (.bool (Dv s).2)],H):=by
 refine Bo (fn:=f86) rfl rfl ?_
 have q:=Pi (Ra s) 0 1000000000
 have q1:=Pi (Ra (s.drop 1)) 1 1000000000
 have p:=Bb (cl:=ev R) fun H=>Bxv H s hs
 have p1:=Bb (cl:=ev R) fun H=>Bxv H (s.drop 1) (by simp;omega)
 rw[List.drop_one] at p1 q1
 unfold Dv
 rw[List.drop_one]
 generalize Ra s.tail=f1 at q1 p1⊢
 generalize Ra s=f at q p⊢
 have tl:s.take s.length=s:=List.take_length
 obtain⟨b,hb⟩: ∃b,s.getD 0 0=b:=⟨_,rfl⟩
 by_cases c:1<s.length
 ·have c': (1:Int)< (s.length:Int):=by omega
  have c0: (0:Int)< (s.length:Int):=by omega
  have c1: (1:Int)≤(s.length:Int):=by omega
  have c2:0<s.length:=by omega
  have c3:1≤s.length:=by omega
  have c4:s≠[]:=by rintro rfl;simp at c
  by_cases d:b=45
  ·subst d
   by_cases e1:1≤f1
   ·by_cases e2:f1≤1000000000
    ·have w:IntKind.i64.wrap (-f1)= -f1:=IntWalk.i64_in _ (by omega)
     simp[Ck,-List.getD_eq_getElem?_getD,-List.map_map,f86,c,c',c0,c1,c2,c3,c4,hb,De,q1,p1,e1,e2,w]
    ·simp[Ck,-List.getD_eq_getElem?_getD,-List.map_map,f86,c,c',c0,c1,c2,c3,c4,hb,De,q1,p1,e1,e2]
   ·simp[Ck,-List.getD_eq_getElem?_getD,-List.map_map,f86,c,c',c0,c1,c2,c3,c4,hb,De,q1,p1,e1]
  ·have d': ¬ ((b.toNat:Nat):Int)=45:=fun h=>d (UInt8.toNat_inj.1 (by rw[show(45:UInt8).toNat=45 from rfl];omega))
   have d'': ¬b.toNat=45:=fun h=>d' (by omega)
   by_cases e1:0≤f
   ·by_cases e2:f≤1000000000
    ·simp[Ck,-List.getD_eq_getElem?_getD,-List.map_map,f86,c,c',c0,c1,c2,c3,c4,hb,De,q,p,e1,e2,d,d',d'']
    ·simp[Ck,-List.getD_eq_getElem?_getD,-List.map_map,f86,c,c',c0,c1,c2,c3,c4,hb,De,q,p,e1,e2,d,d',d'']
   ·simp[Ck,-List.getD_eq_getElem?_getD,-List.map_map,f86,c,c',c0,c1,c2,c3,c4,hb,De,q,p,e1,d,d',d'']
 ·have c': ¬ (1:Int)< (s.length:Int):=by omega
  by_cases e1:0≤f
  ·by_cases e2:f≤1000000000
   ·simp[Ck,-List.getD_eq_getElem?_getD,-List.map_map,f86,c,c',q,p,e1,e2]
   ·simp[Ck,-List.getD_eq_getElem?_getD,-List.map_map,f86,c,c',q,p,e1,e2]
  ·simp[Ck,-List.getD_eq_getElem?_getD,-List.map_map,f86,c,c',q,p,e1]
theorem Brw (mark:UInt8) (low high:Int) (h0:0≤low) (hm:high≤99) (t r:Bl) (n:Int) (h:Jv mark low high t= .ok n r): ∃m:Nat,n=m∧low≤n∧n≤high∧r.length≤t.length:=by
 have h2:low≤n∧n≤high:=by
  have: ∀ (t:Bl) (n:Int) (first:Bool),(first=false→low≤n∧n≤high)→∀ (v:Int) (r:Bl),Jj low high t n first= .ok v r→low≤v∧v≤high:=by
   intro t
   induction t with
   |nil=>intro n first _ v r h;cases h
   |cons c t ih=>
    intro n first hf v r h
    simp only[Jj] at h
    split at h
    ·split at h
     ·cases h
     ·split at h
      ·rename_i w
       exact ih _ _ (fun _=>w) v r h
      ·cases h
    ·split at h
     ·cases h
     ·rename_i hff
      split at h
      ·have:n=v:=by
        cases t with
        |nil=>cases h
        |cons d t=>
         simp only[Fy] at h
         split at h
         ·simp only[Res.bind,Res.ok.injEq] at h;exact h.1
         ·cases h
       subst this
       exact hf (by simpa using hff)
      ·cases h
  cases t with
  |nil=>cases h
  |cons c t=>
   simp only[Jv,Fy] at h
   split at h
   ·exact this _ _ _ (fun h=>by cases h) _ _ h
   ·cases h
 obtain⟨u,hu,_⟩:=(Bby mark low high).ok t n r h
 have:=congrArg List.length hu
 rw[List.length_append] at this
 exact⟨n.toNat,by omega,h2.1,h2.2,by omega⟩
theorem Bnw (x:Bl) (t:Bl): (t=[]∧Sz x t= .short)∨(∃c t',t=c::t'∧c≠13∧Sz x t= .bad)∨(t=[13]∧Sz x t= .short)∨(∃d t',t=13::d::t'∧d≠10∧Sz x t= .bad)∨(∃t',t=13::10::t'∧Sz x t= .ok x t'):=by
 match t with
 | []=>exact .inl ⟨rfl,rfl⟩
 |c::t=>
  by_cases hc:c=13
  ·subst hc
   match t with
   | []=>exact .inr (.inr (.inl ⟨rfl,rfl⟩))
   |d::t=>
    by_cases hd:d=10
    ·subst hd
     exact .inr (.inr (.inr (.inr ⟨t,rfl,rfl⟩)))
    ·exact .inr (.inr (.inr (.inl ⟨d,t,rfl,hd,by simp[Sz,Fy,Res.bind,hd]⟩)))
  ·exact .inr (.inl ⟨c,t,rfl,hc,by simp[Sz,Fy,Res.bind,hc]⟩)
end Go.Proofs.YtedlandcnpjghaaGreatDoor.Code
