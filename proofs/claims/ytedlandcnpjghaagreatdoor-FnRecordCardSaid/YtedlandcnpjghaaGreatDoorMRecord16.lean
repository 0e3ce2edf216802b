/- Lemmas (several texts in one). -/
import Derived.Test.YtedlandcnpjghaaGreatDoorMRecord7
import Derived.Test.YtedlandcnpjghaaGreatDoorMRecord8
import Derived.Test.YtedlandcnpjghaaGreatDoorMRecord9
import Derived.Test.YtedlandcnpjghaaGreatDoorMRecord12
import Derived.Test.YtedlandcnpjghaaGreatDoorMRecord14
import Derived.Test.YtedlandcnpjghaaGreatDoorMRecord15
set_option maxRecDepth 100000
set_option linter.unusedSimpArgs false
set_option linter.unusedVariables false
namespace Go.Proofs.YtedlandcnpjghaaGreatDoor.Code
open Go Go.Ev Go.Proofs
def Gf (xss:List (List Bl)) (i:Nat):Bool:= !Jq (xss.getD i [])
theorem B09 (n0:Nat) (xs:List (List Bl)) (hx:xs.length≤9223372036854775807) (hs: ∀i,(xs.getD i []).length≤1048576) (H:Hp): ∀ (n i:Nat) (e:Env),i+n=xs.length→e.get 0= .d (.vals 1 (Cg xs))→e.get 3= .d (.int .i64 i)→
  ∃e',Bg (Bp (ev R) R.glob n0 Bg Bdv) [0,3] ⟨e,H⟩=some ((match Dy (Gf xs) n i with|some _=> .ret|none=> .exit 0),⟨e',H⟩)∧
   (∀j,Dy (Gf xs) n i=some j→e'.get 2= .d (.bool false))∧(Dy (Gf xs) n i=none→e'.get 0= .d (.vals 1 (Cg xs)))
 |0,i,e,hn,h0,h3=>by
  have c: ¬ (i:Int)< (xs.length:Int):=by omega
  have c': ¬i<xs.length:=by omega
  have tl:=Fx xs
  rw[Bw]
  refine⟨?_, ?_, ?_, ?_⟩
  rotate_left
  ·simp[Ck,-List.getD_eq_getElem?_getD,-List.map_map,Bdv,h0,h3,tl,c,c',Dy]
   rfl
  ·intro j hj;simp[Dy] at hj
  ·intro _
   try refine⟨?_, ?_⟩
   all_goals (first|trivial|simp[Ck,-List.getD_eq_getElem?_getD,-List.map_map,h0,h3])
 |n+1,i,e,hn,h0,h3=>by
  have c: (i:Int)< (xs.length:Int):=by omega
  have c':i<xs.length:=by omega
  have g:=Rt xs i c'
  have tl:=Fx xs
  have p:=Bb (cl:=ev R) fun H=>B02 H (xs.getD i []) (by have:=hs i;omega)
  simp only[Bf] at g p
  generalize List.map D.str (xs.getD i [])=T at g p
  have w1:IntKind.i64.wrap ((i:Int)+1)=((i+1:Nat):Int):=by rw[IntWalk.i64_in _ (by omega)];rfl
  have ih:=B09 n0 xs hx hs H n (i+1)
  rw[Bw]
  generalize Bg (Bp (ev R) R.glob n0 Bg Bdv) [0,3]=F at ih⊢
  by_cases hb:Jq (xs.getD i [])=false
  ·skip
   refine⟨?_, ?_, ?_, ?_⟩
   rotate_left
   ·simp[Ck,-List.getD_eq_getElem?_getD,-List.map_map,Bdv,h0,h3,tl,p,c,c',g,Dy,Gf,hb]
    rfl
   ·intro j hj
    simp[Dy,Gf,hb,-List.getD_eq_getElem?_getD] at hj
    try subst hj
    simp[Ck,-List.getD_eq_getElem?_getD,-List.map_map]
   ·intro hj;simp[Dy,Gf,hb,-List.getD_eq_getElem?_getD] at hj
  ·have hb:Jq (xs.getD i [])=true:=by simpa using hb
   have hs':Dy (Gf xs) (n+1) i=Dy (Gf xs) n (i+1):=by simp[Dy,Gf,hb,-List.getD_eq_getElem?_getD]
   rw[hs']
   simp[Ck,-List.getD_eq_getElem?_getD,-List.map_map,Bdv,h0,h3,tl,p,c,c',g,w1,hb]
   refine ih _ (by omega) ?_ ?_<;>rfl
def Jr (xss:List (List Bl)):Bool:=(Dy (Gf xss) xss.length 0).isNone&& (decide (1≤xss.length) &&decide (xss.length≤60))
theorem B3j (H:Hp) (xss:List (List Bl)) (hx:xss.length≤1048576) (hs: ∀i,(xss.getD i []).length≤1048576):ev R 17 [.d (.vals 1 (Cg xss))] H=some (.d (.bool (Jr xss)),H):=by
 refine Bo (fn:=f17) rfl rfl ?_
 obtain⟨e',he,h1,h2⟩:=B09 (Bc H) xss (by omega) hs H xss.length 0 [(0, .d (.vals 1 (Cg xss))),(3, .d (.int .i64 0))] (by omega) rfl rfl
 have p:=Pi (xss.length:Int) 1 60
 have tl:=Fx xss
 unfold Jr
 cases hr:Dy (Gf xss) xss.length 0 with
 |some j=>
  simp only[hr] at he
  simp[Ck,-List.getD_eq_getElem?_getD,-List.map_map,f17,he,h1 j hr,hr]
 |none=>
  simp only[hr] at he
  have h3:=h2 hr
  have q: (decide ((xss.length:Int)≥1) &&decide ((xss.length:Int)≤60))=(decide (1≤xss.length) &&decide (xss.length≤60)):=by
   congr 1<;>exact decide_eq_decide.2 (by omega)
  rw[q] at p
  simp[Ck,-List.getD_eq_getElem?_getD,-List.map_map,f17,he,h3,hr,tl,p]
theorem Rn {xss:List (List Bl)} (h:Jr xss=true): (∀x∈xss,Jm x)∧1≤xss.length∧xss.length≤60:=by
 unfold Jr at h
 simp only[Bool.and_eq_true,decide_eq_true_eq,Option.isNone_iff_eq_none] at h
 obtain⟨h1,h2,h3⟩:=h
 refine⟨fun x hx=> ?_,h2,h3⟩
 obtain⟨i,hi,rfl⟩:=List.getElem_of_mem hx
 have:=Qy h1 i (by omega) (by omega)
 simp only[Gf,Bool.not_eq_false',List.getD_eq_getElem?_getD,List.getElem?_eq_getElem hi,Option.getD_some] at this
 exact(J6 _).1 this
def Cz:List (List Bl)→Bl
 | []=> []
 |x::r=>Cj x++Cz r
theorem Lg (x:List Bl) (h:Jm x): (Cj x).length≤800:=by
 have:=Bse x
 unfold Bfw at this
 rwa[if_pos ((J6 x).2 h)] at this
theorem U7: ∀ (k n:Nat),n<10 ^ (k+1)→(C9 n).length≤k+1
 |0,n,h=>by rw[Bfa (by simpa using h)];simp
 |k+1,n,h=>by
  rw[C9]
  split
  ·simp
  ·have:=U7 k (n / 10) (by rw[Nat.pow_succ] at h;omega)
   simp only[List.length_append,List.length_singleton];omega
def Dg (now:Nat) (k:Nat):List Bl:=[[65,84],C9 now,C9 k]
theorem Mj (now k:Nat) (h1:now≤1000000) (h2:k≤60):Jm (Dg now k):=by
 have a:=U7 6 now (by omega)
 have b:=U7 1 k (by omega)
 refine⟨fun x hx=> ?_,by simp[Dg],by simp[Dg]⟩
 simp only[Dg,List.mem_cons,List.not_mem_nil,or_false] at hx
 rcases hx with rfl|rfl|rfl
 ·simp
 ·omega
 ·omega
theorem B1a (n0:Nat) (xss:List (List Bl)) (hx:xss.length≤60) (hs: ∀x∈xss,Jm x) (H:Hp): ∀ (n i:Nat) (out:Bl) (e:Env),i+n=xss.length→out.length+800*n≤1000000→e.get 1= .d (.vals 1 (Cg xss))→e.get 5= .d (.str out)→e.get 6= .d (.int .i64 i)→
  ∃e',Bg (Bp (ev R) R.glob n0 Bg Bgw) [1,5,6] ⟨e,H⟩=some (.exit 0,⟨e',H⟩)∧e'.get 5= .d (.str (out++Cz (xss.drop i)))
 |0,i,out,e,hi,hl,h1,h5,h6=>by
  have c: ¬ (i:Int)< ((Cg xss).length:Int):=by rw[Fx];omega
  rw[List.drop_of_length_le (by omega),Cz,List.append_nil,Bw]
  refine⟨?_, ?_, ?_⟩
  rotate_left
  ·simp[Ck,-List.getD_eq_getElem?_getD,-List.map_map,Bgw,h1,h5,h6,c]
   try rfl
  ·simp[Ck,-List.getD_eq_getElem?_getD,-List.map_map,h5]
 |n+1,i,out,e,hi,hl,h1,h5,h6=>by
  have c':i<xss.length:=by omega
  have c: (i:Int)< ((Cg xss).length:Int):=by rw[Fx];omega
  have c2':i< (Cg xss).length:=by rw[Fx];exact c'
  have g:=Rt xss i c'
  have w1:IntKind.i64.wrap ((i:Int)+1)=((i+1:Nat):Int):=by rw[IntWalk.i64_in _ (by omega)];rfl
  have hd:xss.drop i=xss.getD i []::xss.drop (i+1):=by
   rw[List.getD_eq_getElem?_getD,List.getElem?_eq_getElem c']
   exact List.drop_eq_getElem_cons c'
  have hm:Jm (xss.getD i []):=by
   rw[List.getD_eq_getElem?_getD,List.getElem?_eq_getElem c']
   exact hs _ (List.getElem_mem c')
  obtain⟨x,hx'⟩: ∃x,xss.getD i []=x:=⟨_,rfl⟩
  rw[hx'] at g hd hm
  have bl:=Lg x hm
  have q:=Bb (cl:=ev R) fun H=>B03 H x (by have:=hm.2.2;omega) hm.1
  have l1:out.length+(Cj x).length≤Bu:=by unfold Bu;omega
  have ih:=B1a n0 xss hx hs H n (i+1) (out++Cj x)
  simp only[List.append_assoc] at ih
  rw[hd,Cz]
  generalize Cj x=b at q l1 ih bl⊢
  simp only[Bf] at g q
  generalize List.map D.str (x)=T at g q
  rw[Bw]
  generalize Bg (Bp (ev R) R.glob n0 Bg Bgw) [1,5,6]=F at ih⊢
  simp[Ck,-List.getD_eq_getElem?_getD,-List.map_map,Bgw,h1,h5,h6,c,c2',g,w1,q,l1]
  refine ih _ (by omega) (by rw[List.length_append];omega) ?_ ?_ ?_<;>rfl
theorem B3k (H:Hp) (now:Nat) (hn:now≤1000000) (xss:List (List Bl)) (hx:xss.length≤60) (hs: ∀x∈xss,Jm x):ev R 18 [.d (.int .i64 now), .d (.vals 1 (Cg xss))] H=some (.d (.str (Cj (Dg now xss.length)++Cz xss)),H):=by
 refine Bo (fn:=f18) rfl rfl ?_
 have q1:Be (ev R) 29 [.d (.int .i64 now)]=some (.d (.str (C9 now))):=Bb fun H=>Bns now H (by omega)
 have q2:Be (ev R) 29 [.d (.int .i64 xss.length)]=some (.d (.str (C9 xss.length))):=Bb fun H=>Bns xss.length H (by omega)
 have hok:=Mj now xss.length hn hx
 have q3:=Bb (cl:=ev R) fun H=>B03 H (Dg now xss.length) (by simp[Dg]) hok.1
 simp only[Dg,Bf,List.map_cons,List.map_nil] at q3
 have hl:=Lg _ hok
 obtain⟨e',he,h5⟩:=B1a (Bc H) xss hx hs H xss.length 0 (Cj (Dg now xss.length)) [(1, .d (.vals 1 (Cg xss))),(5, .d (.str (Cj (Dg now xss.length)))),(6, .d (.int .i64 0))] (by omega) (by omega) rfl rfl rfl
 rw[List.drop_zero] at h5
 have e:Dg now xss.length=[[65,84],C9 now,C9 xss.length]:=rfl
 rw[←e] at q3
 have tl:=Fx xss
 generalize Cj (Dg now xss.length)=hd at*
 simp[Ck,-List.getD_eq_getElem?_getD,-List.map_map,f18,q1,q2,q3,tl,he,h5]
def Bap (now:Int) (xss:List (List Bl)):Bl:=if 0≤now∧now≤1000000∧Jr xss=true then Cj (Dg now.toNat xss.length)++Cz xss else[]
theorem e_6 (H:Hp) (now:Int) (xss:List (List Bl)) (hx:xss.length≤1048576) (hs: ∀i,(xss.getD i []).length≤1048576):ev R 6 [.d (.int .i64 now), .d (.vals 1 (Cg xss))] H=some (.d (.str (Bap now xss)),H):=by
 refine Bo (fn:=f6) rfl rfl ?_
 have p:=Pi now 0 1000000
 have q:=Bb (cl:=ev R) fun H=>B3j H xss hx hs
 unfold Bap
 by_cases h1:0≤now
 ·by_cases h2:now≤1000000
  ·cases hok:Jr xss with
   |false=>
    rw[hok] at q
    simp[Ck,-List.getD_eq_getElem?_getD,-List.map_map,f6,p,h1,h2,q]
   |true=>
    rw[hok] at q
    obtain⟨a,b,c⟩:=Rn hok
    obtain⟨m,rfl⟩:=Int.eq_ofNat_of_zero_le h1
    have q2:=Bb (cl:=ev R) fun H=>B3k H m (by omega) xss c a
    have h2':m≤1000000:=by omega
    simp[Ck,-List.getD_eq_getElem?_getD,-List.map_map,f6,p,h1,h2,h2',q,q2]
  ·simp[Ck,-List.getD_eq_getElem?_getD,-List.map_map,f6,p,h1,h2]
 ·simp[Ck,-List.getD_eq_getElem?_getD,-List.map_map,f6,p,h1]
theorem l_5 (n0:Nat) (xss:List (List Bl)) (hx:xss.length≤60) (hs: ∀i,(xss.getD i []).length≤1048576) (H:Hp): ∀ (n i:Nat) (out:Bl) (e:Env),i+n=xss.length→out.length+800*n≤1000000→e.get 5= .d (.str out)→e.get 24= .d (.vals 1 (Cg xss))→e.get 25= .d (.int .i64 xss.length)→e.get 26= .d (.int .i64 i)→
  ∃e',Bg (Bp (ev R) R.glob n0 Bg Bnx) [5,24,25,26] ⟨e,H⟩=some ((match Dy (Gf xss) n i with|some _=> .ret|none=> .exit 0),⟨e',H⟩)∧
   (∀j,Dy (Gf xss) n i=some j→e'.get 4= .d (.str []))∧(Dy (Gf xss) n i=none→e'.get 5= .d (.str (out++Cz (xss.drop i))))
 |0,i,out,e,hi,hl,h5,h24,h25,h26=>by
  have c: ¬ (i:Int)< (xss.length:Int):=by omega
  rw[List.drop_of_length_le (by omega),Cz,List.append_nil,Bw]
  refine⟨?_, ?_, ?_, ?_⟩
  rotate_left
  ·simp[Ck,-List.getD_eq_getElem?_getD,-List.map_map,Bnx,h5,h24,h25,h26,c,Dy]
   try rfl
  ·intro j hj;simp[Dy] at hj
  ·intro _;simp[Ck,-List.getD_eq_getElem?_getD,-List.map_map,h5]
 |n+1,i,out,e,hi,hl,h5,h24,h25,h26=>by
  have c':i<xss.length:=by omega
  have c0: (i:Int)< (xss.length:Int):=by omega
  have c: (i:Int)< ((Cg xss).length:Int):=by rw[Fx];omega
  have c2':i< (Cg xss).length:=by rw[Fx];exact c'
  have g:=Rt xss i c'
  have hsi:=hs i
  have w1:IntKind.i64.wrap ((i:Int)+1)=((i+1:Nat):Int):=by rw[IntWalk.i64_in _ (by omega)];rfl
  have hd:xss.drop i=xss.getD i []::xss.drop (i+1):=by
   rw[List.getD_eq_getElem?_getD,List.getElem?_eq_getElem c']
   exact List.drop_eq_getElem_cons c'
  have sk:Dy (Gf xss) (n+1) i=(if Jq (xss.getD i [])=false then some i else Dy (Gf xss) n (i+1)):=by
   simp only[Dy,Gf,Bool.not_eq_true']
  rw[sk,hd,Cz]
  obtain⟨x,hx'⟩: ∃x,xss.getD i []=x:=⟨_,rfl⟩
  rw[hx'] at g hsi⊢
  have q:=Bb (cl:=ev R) fun H=>B0x H x (by omega)
  have q2:=Bb (cl:=ev R) fun H=>Kn H x (by omega)
  cases hok:Jq x with
  |false=>
   rw[hok] at q
   rw[Bw]
   simp only[if_true]
   refine⟨?_, ?_, ?_, ?_⟩
   rotate_left
   ·simp[Ck,-List.getD_eq_getElem?_getD,-List.map_map,Bnx,h5,h24,h25,h26,c,c0,c2',g,q]
    try rfl
   ·intro j hj;simp[Ck,-List.getD_eq_getElem?_getD,-List.map_map]
   ·intro hj;simp at hj
  |true=>
   rw[hok] at q
   have hm:=(J6 x).1 hok
   have bl:=Lg x hm
   have e1:Bfw x=Cj x:=by unfold Bfw;rw[if_pos hok]
   rw[e1] at q2
   have l1:out.length+(Cj x).length≤Bu:=by unfold Bu;omega
   have ih:=l_5 n0 xss hx hs H n (i+1) (out++Cj x)
   simp only[List.append_assoc] at ih
   simp only[Bool.true_eq_false,if_false]
   generalize Cj x=b at q2 l1 ih bl⊢
   simp only[Bf] at g q q2
   generalize List.map D.str (x)=T at g q q2
   generalize Dy (Gf xss) n (i+1)=S at ih⊢
   rw[Bw]
   generalize Bg (Bp (ev R) R.glob n0 Bg Bnx) [5,24,25,26]=F at ih⊢
   simp[Ck,-List.getD_eq_getElem?_getD,-List.map_map,Bnx,h5,h24,h25,h26,c,c0,c2',g,w1,q,q2,l1]
   refine ih _ (by omega) (by rw[List.length_append];omega) ?_ ?_ ?_ ?_<;>rfl
theorem e_5 (H:Hp) (now:Int) (hw: -9223372036854775808≤now∧now≤9223372036854775807) (xss:List (List Bl)) (hx:xss.length≤1048576) (hs: ∀i,(xss.getD i []).length≤1048576):ev R 5 [.d (.int .i64 now), .d (.vals 1 (Cg xss))] H=some (.d (.str (Bap now xss)),H):=by
 refine Bo (fn:=f5) rfl rfl ?_
 have p:=Boe now 0 1000000
 have p2:=Boe (xss.length:Int) 1 60
 have tl:=Fx xss
 unfold Bap
 by_cases h1:0≤now
 ·by_cases h2:now≤1000000
  ·by_cases h3:1≤xss.length
   ·by_cases h4:xss.length≤60
    ·obtain⟨m,rfl⟩:=Int.eq_ofNat_of_zero_le h1
     have h3': (1:Int)≤(xss.length:Int):=by omega
     have h4': (xss.length:Int)≤60:=by omega
     have h2':m≤1000000:=by omega
     have q1:Be (ev R) 14 [.d (.int .i64 m)]=some (.d (.str (C9 m))):=Bb fun H=>by
      refine Bo (fn:=f14) rfl rfl ?_
      have:=Bvg m (by omega)
      simp[Ck,-List.getD_eq_getElem?_getD,-List.map_map,f14,this]
     have q2:Be (ev R) 14 [.d (.int .i64 xss.length)]=some (.d (.str (C9 xss.length))):=Bb fun H=>by
      refine Bo (fn:=f14) rfl rfl ?_
      have:=Bvg xss.length (by omega)
      simp[Ck,-List.getD_eq_getElem?_getD,-List.map_map,f14,this]
     have hok:=Mj m xss.length h2' h4
     have q3:=Bb (cl:=ev R) fun H=>Kn H (Dg m xss.length) (by simp[Dg])
     have e1:Bfw (Dg m xss.length)=Cj (Dg m xss.length):=by unfold Bfw;rw[if_pos ((J6 _).2 hok)]
     rw[e1] at q3
     simp only[Dg,Bf,List.map_cons,List.map_nil] at q3
     have hl:=Lg _ hok
     obtain⟨e',he,g1,g2⟩:=l_5 (Bc H) xss h4 hs H xss.length 0 (Cj (Dg m xss.length)) [(5, .d (.str (Cj (Dg m xss.length)))),(24, .d (.vals 1 (Cg xss))),(25, .d (.int .i64 xss.length)),(26, .d (.int .i64 0))] (by omega) (by omega) rfl rfl rfl rfl
     rw[List.drop_zero] at g2
     have e:Dg m xss.length=[[65,84],C9 m,C9 xss.length]:=rfl
     rw[←e] at q3
     have oo:Jr xss=(Dy (Gf xss) xss.length 0).isNone:=by
      unfold Jr
      simp[h3,h4]
     rw[oo]
     simp only[Int.toNat_natCast]
     generalize Cj (Dg m xss.length)=hd at*
     cases hr:Dy (Gf xss) xss.length 0 with
     |some j=>
      simp only[hr] at he
      simp[Ck,-List.getD_eq_getElem?_getD,-List.map_map,f5,p,p2,tl,h1,h2,h3',h4',q1,q2,q3,he,g1 j hr]
     |none=>
      simp only[hr] at he
      simp[Ck,-List.getD_eq_getElem?_getD,-List.map_map,f5,p,p2,tl,h1,h2,h2',h3',h4',q1,q2,q3,he,g2 hr]
    ·have h4': ¬ (xss.length:Int)≤60:=by omega
     have h3': (1:Int)≤(xss.length:Int):=by omega
     have oo:Jr xss=false:=by unfold Jr;simp[h4]
     simp[Ck,-List.getD_eq_getElem?_getD,-List.map_map,f5,p,p2,tl,h1,h2,h3',h4',oo]
   ·have h3': ¬ (1:Int)≤(xss.length:Int):=by omega
    have oo:Jr xss=false:=by unfold Jr;simp[h3]
    simp[Ck,-List.getD_eq_getElem?_getD,-List.map_map,f5,p,p2,tl,h1,h2,h3',oo]
  ·simp[Ck,-List.getD_eq_getElem?_getD,-List.map_map,f5,p,h1,h2]
 ·simp[Ck,-List.getD_eq_getElem?_getD,-List.map_map,f5,p,h1]
theorem Bko (t:Bl): ∀x∈Lh t,x.length≤40:=by
 unfold Lh
 cases h:Lp t with
 |ok x r=>exact(Brz t r x h).1.1
 |short=>intro x hx;simp at hx
 |bad=>intro x hx;simp at hx
def Ry (s:Bl):Nat→Nat→List (List Bl)→Option (List (List Bl)×Nat)
 |0,n,acc=>some (acc,n)
 |m+1,n,acc=>if Kb (s.drop n)<1 then none else Ry s m (n+(Kb (s.drop n)).toNat) (acc++[Lh (s.drop n)])
def Kk:Int×List (List Bl)×Int:=(0,[],0)
def Ba2 (s:Bl) (n:Nat) (a b:Int×Bool):Int×List (List Bl)×Int:=
 if a.2=true∧b.2=true∧0≤a.1∧a.1≤1000000∧1≤b.1∧b.1≤60 then
  (match Ry s b.1.toNat n [] with
  |some (xss,k)=> (a.1,xss,(k:Int))
  |none=>Kk)
 else Kk
def Baq (s:Bl):Int×List (List Bl)×Int:=
 if Kb s<1 then Kk else
 match Lh s with
 | [x0,x1,x2]=>if x0=[65,84] then Ba2 s (Kb s).toNat (Dv x1) (Dv x2) else Kk
 |_=>Kk
theorem Bqz (s:Bl) (n:Nat) (h:n≤s.length):n+(Kb (s.drop n)).toNat≤s.length:=by
 have h1:=Bfq (s.drop n)
 rw[List.length_drop] at h1
 omega
theorem Bf6 (a b c:D): [a,b,c].getD 0 .nilp=a:=rfl
theorem Bf7 (a b c:D): [a,b,c].getD 1 .nilp=b:=rfl
theorem Bf8 (a b c:D): [a,b,c].getD 2 .nilp=c:=rfl
theorem Bss (s:Bl) (h: ¬ (Lh s).length=3):Baq s=Kk:=by
 unfold Baq
 split
 ·rfl
 ·split
  ·rename_i x0 x1 x2 e
   rw[e] at h
   simp at h
  ·rfl
def Q_7 (H:Hp) (a:Int) (p:Option (List (List Bl)×Nat)) (o:Option (Out×St)):Prop:=
 match p with
 |none=> ∃e' g ys,o=some (.ret,⟨e',Bt H (.row g 1 ((Cg ys).map V.d))⟩)∧e'.get 2= .d (.int .i64 0)∧e'.get 3= .d (.vals 1 [])∧e'.get 4= .d (.int .i64 0)
 |some (xss,k)=> ∃e' g,o=some (.exit 0,⟨e',Bt H (.row g 1 ((Cg xss).map V.d))⟩)∧e'.get 6= .d (.int .i64 k)∧e'.get 7= .d (.int .i64 a)∧e'.get 11= .slc (Bc H) g 0 xss.length
theorem l_7 (n0:Nat) (s:Bl) (hs:s.length≤1000000000) (H:Hp) (a:Int) (B:Nat) (hB:B≤60): ∀ (m i n g:Nat) (acc:List (List Bl)) (e:Env),i+m=B→acc.length+m≤60→n≤s.length→e.get 0= .d (.str s)→e.get 6= .d (.int .i64 n)→e.get 7= .d (.int .i64 a)→e.get 11= .slc (Bc H) g 0 acc.length→e.get 65= .d (.int .i64 B)→e.get 66= .d (.int .i64 i)→
  Q_7 H a (Ry s m n acc) (Bg (Bp (ev R) R.glob n0 Bg Bny) [0,6,7,11,65,66] ⟨e,Bt H (.row g 1 ((Cg acc).map V.d))⟩)
 |0,i,n,g,acc,e,hi,hl,hn,h0,h6,h7,h11,h65,h66=>by
  have c: ¬ (i:Int)< (B:Int):=by omega
  have c': ¬i<B:=by omega
  rw[Bw,Ry]
  unfold Q_7
  refine⟨?_,g, ?_, ?_⟩
  rotate_left
  ·simp[Ck,-List.getD_eq_getElem?_getD,-List.map_map,Bny,h0,h6,h7,h11,h65,h66,c,c']
   try rfl
  ·simp[Ck,-List.getD_eq_getElem?_getD,-List.map_map,h6,h7,h11]
 |m+1,i,n,g,acc,e,hi,hl,hn,h0,h6,h7,h11,h65,h66=>by
  have c: (i:Int)< (B:Int):=by omega
  have c':i<B:=by omega
  have p:=Bb (cl:=ev R) fun H=>B0z H (s.drop n) (by simp;omega)
  have tl:s.take s.length=s:=List.take_length
  have b1: (0:Int)≤(n:Int):=by omega
  have b2: (n:Int)≤(s.length:Int):=by omega
  have w1:IntKind.i64.wrap ((i:Int)+1)=((i+1:Nat):Int):=by rw[IntWalk.i64_in _ (by omega)];rfl
  have dn:=Bqz s n hn
  have on:=Bfq (s.drop n)
  rw[Bw,Ry]
  obtain⟨k,hk⟩: ∃k,Kb (s.drop n)=k:=⟨_,rfl⟩
  obtain⟨x,hx⟩: ∃x,Lh (s.drop n)=x:=⟨_,rfl⟩
  rw[hk] at p dn on⊢
  rw[hx] at p⊢
  by_cases d:k<1
  ·have d':k≤0:=by omega
   rw[if_pos d]
   unfold Q_7
   refine⟨?_,g,acc, ?_, ?_⟩
   rotate_left
   ·generalize(Cg acc).map V.d=vs
    simp[Ck,-List.getD_eq_getElem?_getD,-List.map_map,Bny,h0,h6,h7,h11,h65,h66,c,c',p,tl,b1,b2,hn,De,d,d']
    try rfl
   ·simp[Ck,-List.getD_eq_getElem?_getD,-List.map_map]
  ·have d': ¬k≤0:=by omega
   rw[if_neg d]
   have w2:IntKind.i64.wrap ((n:Int)+k)=((n+k.toNat:Nat):Int):=by rw[IntWalk.i64_in _ (by omega)];omega
   have ih:=l_7 n0 s hs H a B hB m (i+1) (n+k.toNat) (g+1) (acc++[x])
   have vl: ((Cg acc).map V.d).length=acc.length:=by rw[List.length_map,Fx]
   have va: (Cg (acc++[x])).map V.d=(Cg acc).map V.d++[.d (Bf x)]:=by simp[Cg]
   have al: (acc++[x]).length=acc.length+1:=by simp
   rw[va,al] at ih
   have rm: (acc.length+1)*24≤Cx:=by unfold Cx;omega
   generalize((n+k.toNat:Nat):Int)=n2 at*
   generalize(Cg acc).map V.d=vs at*
   generalize Ry s m (n+k.toNat) (acc++[x])=RG at*
   generalize Bg (Bp (ev R) R.glob n0 Bg Bny) [0,6,7,11,65,66]=F at ih⊢
   simp only[Bf] at p ih
   generalize List.map D.str x=T at*
   simp[Ck,-List.getD_eq_getElem?_getD,-List.map_map,Bny,h0,h6,h7,h11,h65,h66,c,c',p,tl,b1,b2,hn,De,d,d',R6,vl,rm,w1,w2]
   refine ih _ (by omega) (by omega) (by omega) ?_ ?_ ?_ ?_ ?_ ?_<;>rfl
theorem e_7 (H:Hp) (s:Bl) (hs:s.length≤1000000000):ev R 7 [.d (.str s)] H=some (.tup [.d (.int .i64 (Baq s).1), .d (.vals 1 (Cg (Baq s).2.1)), .d (.int .i64 (Baq s).2.2)],H):=by
 refine Bo (fn:=f7) rfl rfl ?_
 have p:=Bb (cl:=ev R) fun H=>B0z H s hs
 have on:=Bfq s
 have sh:=Bko s
 by_cases d:Kb s<1
 ·have dz:Kb s≤0:=by omega
  unfold Baq
  rw[if_pos d]
  simp[Ck,-List.getD_eq_getElem?_getD,-List.map_map,f7,p,d,dz,Kk,Cg]
 ·have dz: ¬Kb s≤0:=by omega
  by_cases l3: (Lh s).length=3
  ·unfold Baq
   rw[if_neg d]
   obtain⟨x0,x1,x2,e⟩: ∃x0 x1 x2,Lh s=[x0,x1,x2]:=by
    match Lh s,l3 with
    | [x0,x1,x2],_=>exact⟨x0,x1,x2,rfl⟩
   rw[e] at p sh⊢
   simp only
   simp only[Bf,List.map_cons,List.map_nil] at p
   by_cases x0e:x0=[65,84]
   ·subst x0e
    rw[if_pos rfl]
    have s1:=sh x1 (by simp)
    have s2:=sh x2 (by simp)
    have p1:=Bb (cl:=ev R) fun H=>B00 H x1 (by omega)
    have p2:=Bb (cl:=ev R) fun H=>B00 H x2 (by omega)
    generalize Dv x1=A at p1⊢
    generalize Dv x2=B at p2⊢
    obtain⟨a1,a2⟩:=A
    obtain⟨b1,b2⟩:=B
    have q1:=Boe a1 0 1000000
    have q2:=Boe b1 1 60
    unfold Ba2
    cases a2 with
    |false=>simp[Ck,-List.getD_eq_getElem?_getD,-List.map_map,f7,Bf6,Bf7,Bf8,p,p1,p2,q1,q2,d,dz,Kk,Cg]
    |true=>
     cases b2 with
     |false=>simp[Ck,-List.getD_eq_getElem?_getD,-List.map_map,f7,Bf6,Bf7,Bf8,p,p1,p2,q1,q2,d,dz,Kk,Cg]
     |true=>
      by_cases c1:0≤a1
      ·by_cases c2:a1≤1000000
       ·by_cases c3:1≤b1
        ·by_cases c4:b1≤60
         ·obtain⟨b,rfl⟩:=Int.eq_ofNat_of_zero_le (show 0≤b1 by omega)
          obtain⟨n,hn⟩:=Int.eq_ofNat_of_zero_le (show 0≤Kb s by omega)
          rw[hn] at p d dz on⊢
          have L:=l_7 (Bc H) s hs H a1 b (by omega) b 0 n 0 [] [(0, .d (.str s)),(6, .d (.int .i64 n)),(7, .d (.int .i64 a1)),(11, .slc (Bc H) 0 0 0),(65, .d (.int .i64 b)),(66, .d (.int .i64 0))] (by omega) (by simp;omega) (by omega) rfl rfl rfl rfl rfl rfl
          have e0: (Cg []).map V.d=[]:=rfl
          rw[e0] at L
          have c3':1≤b:=by omega
          have c4':b≤60:=by omega
          rw[if_pos ⟨rfl,rfl,c1,c2,c3,c4⟩]
          simp only[Int.toNat_natCast]
          have d': ¬n=0:=by omega
          cases hr:Ry s b n [] with
          |none=>
           rw[hr] at L
           obtain⟨e',g,ys,he,g2,g3,g4⟩:=L
           simp[Ck,-List.getD_eq_getElem?_getD,-List.map_map,f7,Bf6,Bf7,Bf8,p,p1,p2,q1,q2,d,dz,d',c1,c2,c3,c4,c3',c4',he,g2,g3,g4,Kk,Cg]
          |some r=>
           obtain⟨xss,k⟩:=r
           rw[hr] at L
           obtain⟨e',g,he,g6,g7,g11⟩:=L
           have fzr:Wx (Bc H) (Bt H (.row g 1 ((Cg xss).map V.d))) (.slc (Bc H) g 0 xss.length)=some (.d (.vals 1 (Cg xss))):=by
            have:=Bmq H g 1 (Cg xss) xss.length (Fx xss).symm
            exact this
           generalize Cg xss=T at*
           simp[Ck,-List.getD_eq_getElem?_getD,-List.map_map,f7,Bf6,Bf7,Bf8,p,p1,p2,q1,q2,d,dz,d',c1,c2,c3,c4,c3',c4',he,g6,g7,g11,fzr]
         ·simp[Ck,-List.getD_eq_getElem?_getD,-List.map_map,f7,Bf6,Bf7,Bf8,p,p1,p2,q1,q2,d,dz,Kk,Cg,c1,c2,c3,c4]
        ·simp[Ck,-List.getD_eq_getElem?_getD,-List.map_map,f7,Bf6,Bf7,Bf8,p,p1,p2,q1,q2,d,dz,Kk,Cg,c1,c2,c3]
       ·simp[Ck,-List.getD_eq_getElem?_getD,-List.map_map,f7,Bf6,Bf7,Bf8,p,p1,p2,q1,q2,d,dz,Kk,Cg,c1,c2]
      ·simp[Ck,-List.getD_eq_getElem?_getD,-List.map_map,f7,Bf6,Bf7,Bf8,p,p1,p2,q1,q2,d,dz,Kk,Cg,c1]
   ·rw[if_neg x0e]
    simp[Ck,-List.getD_eq_getElem?_getD,-List.map_map,f7,Bf6,Bf7,Bf8,p,d,dz,Kk,Cg,x0e]
  ·rw[Bss s l3]
   have l3': ¬ ((Lh s).length:Int)=3:=by omega
   simp[Ck,-List.getD_eq_getElem?_getD,-List.map_map,f7,p,d,dz,Kk,Cg,Bf,l3,l3']
theorem Uf (x:List Bl) (r:Bl) (h:Jm x):Lh (Cj x++r)=x∧Kb (Cj x++r)=((Cj x).length:Int):=by
 have p:=Bod x r h
 constructor
 ·simp[Lh,p]
 ·simp only[Kb,p,List.length_append];omega
theorem P6 (x:List Bl):1≤(Cj x).length:=by unfold Cj;rw[List.length_cons];omega
theorem Bev (r:Bl): ∀ (xss:List (List Bl)) (pre:Bl) (acc:List (List Bl)),(∀x∈xss,Jm x)→Ry (pre++(Cz xss++r)) xss.length pre.length acc=some (acc++xss,pre.length+(Cz xss).length)
 | [],pre,acc,_=>by simp[Ry,Cz]
 |x::xs,pre,acc,h=>by
  obtain⟨h1,h2⟩:=Uf x (Cz xs++r) (h x (by simp))
  have hp:=P6 x
  have ih:=Bev r xs (pre++Cj x) (acc++[x]) fun y hy=>h y (by simp[hy])
  simp only[List.length_cons,Ry,Cz,List.append_assoc]
  rw[List.drop_left,h1,h2,if_neg (by omega),Int.toNat_natCast]
  simp only[List.append_assoc,List.length_append] at ih
  rw[ih]
  simp only[List.cons_append,List.nil_append,List.length_append,Nat.add_assoc]
theorem Bst (now k:Nat) (hn:now≤1000000) (xss:List (List Bl)) (hx: ∀x∈xss,Jm x) (h1:1≤xss.length) (h2:xss.length≤60) (r:Bl):
  Baq (Cj (Dg now xss.length)++(Cz xss++r))=((now:Int),xss,(((Cj (Dg now xss.length)).length+(Cz xss).length:Nat):Int)):=by
 obtain⟨e1,e2⟩:=Uf (Dg now xss.length) (Cz xss++r) (Mj now _ hn h2)
 have hp:=P6 (Dg now xss.length)
 have hg:=Bev r xss (Cj (Dg now xss.length)) [] hx
 unfold Baq
 rw[e1,e2,if_neg (by omega)]
 unfold Dg at*
 simp only[if_true]
 unfold Ba2
 rw[Sq now (by omega),Sq xss.length (by omega),if_pos ⟨rfl,rfl,by dsimp only;omega,by dsimp only;omega,by dsimp only;omega,by dsimp only;omega⟩]
 dsimp only
 rw[Int.toNat_natCast,Int.toNat_natCast,hg]
 simp
theorem Bcs: ∀ (xss:List (List Bl)) (pre:Bl) (j:Nat) (acc:List (List Bl)),(∀x∈xss,Jm x)→j< (Cz xss).length→Ry (pre++(Cz xss).take j) xss.length pre.length acc=none
 | [],pre,j,acc,_,hj=>by simp[Cz] at hj
 |x::xs,pre,j,acc,h,hj=>by
  obtain⟨h1,h2⟩:=Uf x (Cz xs) (h x (by simp))
  have hp:=P6 x
  simp only[List.length_cons,Ry,Cz] at hj⊢
  rw[List.drop_left]
  have hq:=(Bhr (Cj x++Cz xs) j (by omega)).1 (by omega)
  rw[h2] at hq
  rcases hq with⟨h3,h4⟩ | ⟨h3,h4⟩
  ·rw[h4,if_pos (by omega)]
  ·have ht: (Cj x++Cz xs).take j=Cj x++(Cz xs).take (j - (Cj x).length):=by
    rw[List.take_append,List.take_of_length_le (by omega)]
   have h5:=(Uf x ((Cz xs).take (j - (Cj x).length)) (h x (by simp))).1
   have ih:=Bcs xs (pre++Cj x) (j - (Cj x).length) (acc++[x]) (fun y hy=>h y (by simp[hy])) (by rw[List.length_append] at hj;omega)
   rw[h4,if_neg (by omega),ht,h5,Int.toNat_natCast]
   rw[List.length_append,List.append_assoc] at ih
   exact ih
theorem Bo7 (now:Nat) (hn:now≤1000000) (xss:List (List Bl)) (hx: ∀x∈xss,Jm x) (h1:1≤xss.length) (h2:xss.length≤60) (j:Nat) (hj:j< (Cj (Dg now xss.length)++Cz xss).length):
  Baq ((Cj (Dg now xss.length)++Cz xss).take j)=Kk:=by
 obtain⟨e1,e2⟩:=Uf (Dg now xss.length) (Cz xss) (Mj now _ hn h2)
 have hp:=P6 (Dg now xss.length)
 have hq:=(Bhr (Cj (Dg now xss.length)++Cz xss) j (by omega)).1 (by omega)
 rw[e2] at hq
 rcases hq with⟨h3,h4⟩ | ⟨h3,h4⟩
 ·unfold Baq
  rw[h4,if_pos (by omega)]
 ·have ht: (Cj (Dg now xss.length)++Cz xss).take j=Cj (Dg now xss.length)++(Cz xss).take (j - (Cj (Dg now xss.length)).length):=by
   rw[List.take_append,List.take_of_length_le (by omega)]
  have h5:=(Uf (Dg now xss.length) ((Cz xss).take (j - (Cj (Dg now xss.length)).length)) (Mj now _ hn h2)).1
  have hg:=Bcs xss (Cj (Dg now xss.length)) (j - (Cj (Dg now xss.length)).length) [] hx (by rw[List.length_append] at hj;omega)
  unfold Baq
  rw[h4,if_neg (by omega),ht,h5]
  unfold Dg at*
  simp only[if_true]
  unfold Ba2
  rw[Sq now (by omega),Sq xss.length (by omega),if_pos ⟨rfl,rfl,by dsimp only;omega,by dsimp only;omega,by dsimp only;omega,by dsimp only;omega⟩]
  dsimp only
  rw[Int.toNat_natCast,Int.toNat_natCast,hg]
end Go.Proofs.YtedlandcnpjghaaGreatDoor.Code
