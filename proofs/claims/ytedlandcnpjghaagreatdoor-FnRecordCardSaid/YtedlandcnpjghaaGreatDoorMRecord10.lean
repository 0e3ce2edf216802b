/- Lemmas (several texts in one). -/
import Derived.Test.YtedlandcnpjghaaGreatDoorMRecord7
import Derived.Test.YtedlandcnpjghaaGreatDoorMRecord8
set_option linter.unusedSimpArgs false
set_option linter.unusedVariables false
set_option maxRecDepth 100000
namespace Go.Proofs.YtedlandcnpjghaaGreatDoor.Code
open Go Go.Ev
theorem u8n {k:Nat} (h:k<256): (UInt8.ofNat k).toNat=k:=by simp[Nat.mod_eq_of_lt h]
theorem Bfa {n:Nat} (h:n<10):C9 n=[UInt8.ofNat (48+n)]:=by rw[C9,dif_pos h]
theorem B0u {n:Nat} (h:10≤n) (h2:n<100):C9 n=[UInt8.ofNat (48+n / 10),UInt8.ofNat (48+n % 10)]:=by
 rw[C9,dif_neg (by omega),Bfa (by omega)];rfl
theorem Sr {k:Nat} (h:k<10):L8 (UInt8.ofNat (48+k))=true:=by
 unfold L8;rw[u8n (by omega)];simp;omega
theorem Bav {k:Nat} (h:k<10) (n:Int):Gg n (UInt8.ofNat (48+k))=10*n+k:=by
 unfold Gg;rw[u8n (by omega)];omega
theorem Bmu (mark:UInt8) (low high:Int) (n:Nat) (h0:0≤low) (h1:low≤1) (hl:low≤n) (hh:n≤high) (hm:high≤99) (r:Bl):Jv mark low high (mark:: (C9 n++(13::10::r)))= .ok n r:=by
 by_cases c:n<10
 ·rw[Bfa c]
  have a:low≤Gg 0 (UInt8.ofNat (48+n))∧Gg 0 (UInt8.ofNat (48+n))≤high:=by rw[Bav c];omega
  have e:Gg 0 (UInt8.ofNat (48+n))=n:=by rw[Bav c];omega
  rw[e] at a
  simp only[Jv,Fy,Res.bind,Jj,List.cons_append,List.nil_append,Sr c,if_true,e,a,and_false,and_self,if_false,Bool.true_eq_false,false_and,hl,hh,Bdp,Bool.false_eq_true]
 ·have c1:n / 10<10:=by omega
  have c2:n % 10<10:=by omega
  rw[B0u (by omega) (by omega)]
  have e1:Gg 0 (UInt8.ofNat (48+n / 10))=((n / 10:Nat):Int):=by rw[Bav c1];omega
  have e2:Gg ((n / 10:Nat):Int) (UInt8.ofNat (48+n % 10))=n:=by rw[Bav c2];omega
  have a1:low≤((n / 10:Nat):Int)∧((n / 10:Nat):Int)≤high:=by omega
  have a2: ¬ ((n / 10:Nat):Int)=0:=by omega
  obtain⟨k,hk⟩: ∃k:Int,((n / 10:Nat):Int)=k:=⟨_,rfl⟩
  rw[hk] at e1 e2 a1 a2
  simp only[Jv,Fy,Res.bind,Jj,List.cons_append,List.nil_append,Sr c1,Sr c2,if_true,e1,e2,a1,a2,and_false,and_self,if_false,Bool.true_eq_false,false_and,hl,hh,Bdp,Bool.false_eq_true]
theorem Brx (mark:UInt8) (low high:Int) (h0:0≤low) (hm:high≤99) (t r:Bl) (n:Int) (h:Jv mark low high t= .ok n r): ∃m:Nat,n=m∧low≤n∧n≤high∧t=mark:: (C9 m++(13::10::r)):=by
 match t with
 | []=>simp[Jv,Fy,Res.bind] at h
 |c::t=>
  by_cases hc:c=mark
  ·subst hc
   match t with
   | []=>simp[Jv,Fy,Res.bind,Jj] at h
   |d1::t1=>
    cases g1:L8 d1 with
    |false=>simp[Jv,Fy,Res.bind,Jj,g1] at h
    |true=>
     have b1:=Md g1
     by_cases w1:low≤Gg 0 d1∧Gg 0 d1≤high
     ·match t1 with
      | []=>simp[Jv,Fy,Res.bind,Jj,g1,w1] at h
      |d2::t2=>
       cases g2:L8 d2 with
       |false=>
        by_cases Kn:d2=13
        ·subst Kn
         match t2 with
         | []=>simp[Jv,Fy,Res.bind,Jj,g1,g2,w1] at h
         |d3::t3=>
          by_cases e10:d3=10
          ·subst e10
           simp[Jv,Fy,Res.bind,Jj,g1,g2,w1] at h
           obtain⟨rfl,rfl⟩:=h
           refine⟨d1.toNat - 48,by unfold Gg;omega,w1.1,w1.2, ?_⟩
           rw[Bfa (by omega)]
           have:48+(d1.toNat - 48)=d1.toNat:=by omega
           rw[this];simp
          ·simp[Jv,Fy,Res.bind,Jj,g1,g2,w1,e10] at h
        ·simp[Jv,Fy,Res.bind,Jj,g1,g2,w1,Kn] at h
       |true=>
        have b2:=Md g2
        by_cases z1:Gg 0 d1=0
        ·simp[Jv,Fy,Res.bind,Jj,g1,g2,w1,z1] at h
        ·by_cases w2:low≤Gg (Gg 0 d1) d2∧Gg (Gg 0 d1) d2≤high
         ·match t2 with
          | []=>simp[Jv,Fy,Res.bind,Jj,g1,g2,w1,z1,w2] at h
          |d3::t3=>
           cases g3:L8 d3 with
           |true=>
            have b3:=Md g3
            have w3: ¬ (low≤Gg (Gg (Gg 0 d1) d2) d3∧Gg (Gg (Gg 0 d1) d2) d3≤high):=by
             unfold Gg at z1⊢;omega
            have z2: ¬Gg (Gg 0 d1) d2=0:=by unfold Gg at z1⊢;omega
            simp only[Jv,Fy,Res.bind,Jj,g1,g2,g3,w1,z1,w2,w3,z2,if_true,if_false,and_self,and_false,false_and,Bool.true_eq_false] at h
            cases h
           |false=>
            by_cases Kn:d3=13
            ·subst Kn
             match t3 with
             | []=>simp[Jv,Fy,Res.bind,Jj,g1,g2,g3,w1,z1,w2] at h
             |d4::t4=>
              by_cases e10:d4=10
              ·subst e10
               simp[Jv,Fy,Res.bind,Jj,g1,g2,g3,w1,z1,w2] at h
               obtain⟨rfl,rfl⟩:=h
               have k1:Gg 0 d1=(d1.toNat:Int) - 48:=by unfold Gg;omega
               have k2:Gg (Gg 0 d1) d2=10*((d1.toNat:Int) - 48)+((d2.toNat:Int) - 48):=by rw[k1];rfl
               refine⟨10*(d1.toNat - 48)+(d2.toNat - 48),by omega,w2.1,w2.2, ?_⟩
               rw[B0u (by omega) (by omega)]
               have a1:48+(10*(d1.toNat - 48)+(d2.toNat - 48)) / 10=d1.toNat:=by omega
               have a2:48+(10*(d1.toNat - 48)+(d2.toNat - 48)) % 10=d2.toNat:=by omega
               rw[a1,a2];simp
              ·simp[Jv,Fy,Res.bind,Jj,g1,g2,g3,w1,z1,w2,e10] at h
            ·simp[Jv,Fy,Res.bind,Jj,g1,g2,g3,w1,z1,w2,Kn] at h
         ·simp[Jv,Fy,Res.bind,Jj,g1,g2,w1,z1,w2] at h
     ·simp[Jv,Fy,Res.bind,Jj,g1,w1] at h
  ·simp[Jv,Fy,Res.bind,hc] at h
def Qn (a:Bl):Bl:=36:: (C9 a.length++(13::10:: (a++[13,10])))
def L6:List Bl→Bl
 | []=> []
 |a::r=>Qn a++L6 r
def Cj (xs:List Bl):Bl:=42:: (C9 xs.length++(13::10::L6 xs))
def Jm (xs:List Bl):Prop:=(∀x∈xs,x.length≤40)∧1≤xs.length∧xs.length≤8
theorem Brn (a r:Bl) (h:a.length≤40):Z6 (Qn a++r)= .ok a r:=by
 have e:Qn a++r=36:: (C9 a.length++(13::10:: (a++(13::10::r)))):=by simp[Qn]
 rw[e]
 unfold Z6
 rw[Bmu 36 0 40 a.length (by omega) (by omega) (by omega) (by omega) (by omega)]
 have t1:X3 ((a.length:Int)).toNat (a++(13::10::r))= .ok a (13::10::r):=by
  unfold X3
  rw[if_neg (by simp),Int.toNat_natCast,List.take_left,List.drop_left]
 simp only[Res.bind,t1,Sz,Fy,if_true]
theorem Bvc (t x r:Bl) (h:Z6 t= .ok x r):x.length≤40∧t=Qn x++r:=by
 unfold Z6 at h
 cases hn:Jv 36 0 40 t with
 |short=>rw[hn] at h;cases h
 |bad=>rw[hn] at h;cases h
 |ok n r1=>
  rw[hn] at h
  obtain⟨m,rfl,h1,h2,rfl⟩:=Brx 36 0 40 (by omega) (by omega) t r1 n hn
  simp only[Res.bind,X3,Int.toNat_natCast] at h
  by_cases c:r1.length<m
  ·rw[if_pos c] at h;cases h
  ·rw[if_neg c] at h
   simp only[Sz] at h
   have hl: (r1.take m).length=m:=by simp;omega
   have hs:r1=r1.take m++r1.drop m:=(List.take_append_drop m r1).symm
   cases hd:r1.drop m with
   |nil=>rw[hd] at h;cases h
   |cons a r2=>
    rw[hd] at h hs
    simp only[Fy] at h
    by_cases ha:a=13
    ·rw[if_pos ha] at h
     simp only[Res.bind] at h
     cases r2 with
     |nil=>cases h
     |cons b r3=>
      simp only[Fy] at h
      by_cases hb:b=10
      ·rw[if_pos hb] at h
       simp only[Res.bind,Res.ok.injEq] at h
       obtain⟨rfl,rfl⟩:=h
       subst ha hb
       refine⟨by omega, ?_⟩
       unfold Qn
       rw[hl]
       conv=>lhs;rw[hs]
       simp
      ·rw[if_neg hb] at h;cases h
    ·rw[if_neg ha] at h;cases h
theorem Bea: ∀ (xs:List Bl) (r:Bl),(∀x∈xs,x.length≤40)→Ld xs.length (L6 xs++r)= .ok xs r
 | [],r,_=>rfl
 |x::xs,r,h=>by
  simp only[List.length_cons,Ld,L6,List.append_assoc]
  rw[Brn x _ (h x (by simp))]
  simp only[Res.bind]
  rw[Bea xs r fun y hy=>h y (by simp[hy])]
theorem Bhc: ∀ (n:Nat) (t r:Bl) (xs:List Bl),Ld n t= .ok xs r→xs.length=n∧(∀x∈xs,x.length≤40)∧t=L6 xs++r
 |0,t,r,xs,h=>by cases h;exact⟨rfl,by simp,rfl⟩
 |n+1,t,r,xs,h=>by
  simp only[Ld] at h
  cases h1:Z6 t with
  |short=>rw[h1] at h;cases h
  |bad=>rw[h1] at h;cases h
  |ok x r1=>
   rw[h1] at h
   simp only[Res.bind] at h
   cases h2:Ld n r1 with
   |short=>rw[h2] at h;cases h
   |bad=>rw[h2] at h;cases h
   |ok ys r2=>
    rw[h2] at h
    simp only[Res.bind,Res.ok.injEq] at h
    obtain⟨rfl,rfl⟩:=h
    obtain⟨a1,rfl⟩:=Bvc t x r1 h1
    obtain⟨b1,b2,rfl⟩:=Bhc n r1 r2 ys h2
    refine⟨by simp[b1], ?_,by simp[L6]⟩
    intro y hy
    rcases List.mem_cons.1 hy with rfl|hy
    ·exact a1
    ·exact b2 y hy
theorem Bod (xs:List Bl) (r:Bl) (h:Jm xs):Lp (Cj xs++r)= .ok xs r:=by
 have e:Cj xs++r=42:: (C9 xs.length++(13::10:: (L6 xs++r))):=by simp[Cj]
 rw[e]
 unfold Lp
 obtain⟨h1,h2,h3⟩:=h
 rw[Bmu 42 1 8 xs.length (by omega) (by omega) (by omega) (by omega) (by omega)]
 simp only[Res.bind,Int.toNat_natCast]
 exact Bea xs r h1
theorem Brz (t r:Bl) (xs:List Bl) (h:Lp t= .ok xs r):Jm xs∧t=Cj xs++r:=by
 unfold Lp at h
 cases hn:Jv 42 1 8 t with
 |short=>rw[hn] at h;cases h
 |bad=>rw[hn] at h;cases h
 |ok n r1=>
  rw[hn] at h
  obtain⟨m,rfl,h1,h2,rfl⟩:=Brx 42 1 8 (by omega) (by omega) t r1 n hn
  simp only[Res.bind,Int.toNat_natCast] at h
  obtain⟨a,b,rfl⟩:=Bhc m r1 r xs h
  subst a
  exact⟨⟨b,by omega,by omega⟩,by simp[Cj]⟩
end Go.Proofs.YtedlandcnpjghaaGreatDoor.Code
namespace Go.Proofs.YtedlandcnpjghaaGreatDoor.Code
open Go Go.Ev Go.Proofs
theorem B1d (n0:Nat) (xs:List Bl) (hx:xs.length≤9223372036854775807) (H:Hp): ∀ (n i:Nat) (e:Env),i+n=xs.length→e.get 0= .d (Bf xs)→e.get 3= .d (.int .i64 i)→
  ∃e',Bg (Bp (ev R) R.glob n0 Bg Bdx) [0,3] ⟨e,H⟩=some ((match Dy (Ka xs) n i with|some _=> .ret|none=> .exit 0),⟨e',H⟩)∧
   (∀j,Dy (Ka xs) n i=some j→e'.get 2= .d (.bool false))∧(Dy (Ka xs) n i=none→e'.get 0= .d (Bf xs))
 |0,i,e,hn,h0,h3=>by
  have c: ¬ (i:Int)< (xs.length:Int):=by omega
  have c': ¬i<xs.length:=by omega
  rw[Bw]
  refine⟨?_, ?_, ?_, ?_⟩
  rotate_left
  ·simp[Ck,-List.getD_eq_getElem?_getD,-List.map_map,Bdx,h0,h3,Bf,c,c',Dy]
   rfl
  ·intro j hj;simp[Dy] at hj
  ·intro _
   try refine⟨?_, ?_⟩
   all_goals (first|trivial|simp[Ck,-List.getD_eq_getElem?_getD,-List.map_map,h0,h3,Bf])
 |n+1,i,e,hn,h0,h3=>by
  have c: (i:Int)< (xs.length:Int):=by omega
  have c':i<xs.length:=by omega
  have g:=Dt xs i c'
  have w1:IntKind.i64.wrap ((i:Int)+1)=((i+1:Nat):Int):=by rw[IntWalk.i64_in _ (by omega)];rfl
  have ih:=B1d n0 xs hx H n (i+1)
  rw[Bw]
  generalize Bg (Bp (ev R) R.glob n0 Bg Bdx) [0,3]=F at ih⊢
  by_cases hb:40< (xs.getD i []).length
  ·have hb': (40:Int)< ((xs.getD i []).length:Int):=by omega
   refine⟨?_, ?_, ?_, ?_⟩
   rotate_left
   ·simp[Ck,-List.getD_eq_getElem?_getD,-List.map_map,Bdx,h0,h3,Bf,c,c',g,Dy,Ka,hb,hb']
    rfl
   ·intro j hj
    simp[Dy,Ka,hb,hb',-List.getD_eq_getElem?_getD] at hj
    try subst hj
    simp[Ck,-List.getD_eq_getElem?_getD,-List.map_map]
   ·intro hj;simp[Dy,Ka,hb,hb',-List.getD_eq_getElem?_getD] at hj
  ·have hb': ¬ (40:Int)< ((xs.getD i []).length:Int):=by omega
   have hs:Dy (Ka xs) (n+1) i=Dy (Ka xs) n (i+1):=by simp[Dy,Ka,hb,-List.getD_eq_getElem?_getD]
   rw[hs]
   simp[Ck,-List.getD_eq_getElem?_getD,-List.map_map,Bdx,h0,h3,Bf,c,c',g,w1,hb,hb']
   refine ih _ (by omega) ?_ ?_<;>rfl
def Jq (xs:List Bl):Bool:=(Dy (Ka xs) xs.length 0).isNone&& (decide (1≤xs.length) &&decide (xs.length≤8))
theorem J6 (xs:List Bl):Jq xs=true↔Jm xs:=by
 unfold Jq Jm
 constructor
 ·intro h
  simp only[Bool.and_eq_true,decide_eq_true_eq,Option.isNone_iff_eq_none] at h
  obtain⟨h1,h2,h3⟩:=h
  refine⟨fun x hx=> ?_,h2,h3⟩
  obtain⟨i,hi,rfl⟩:=List.getElem_of_mem hx
  have:=Qy h1 i (by omega) (by omega)
  simp only[Ka,decide_eq_false_iff_not,List.getD_eq_getElem?_getD,List.getElem?_eq_getElem hi,Option.getD_some] at this
  omega
 ·rintro⟨h1,h2,h3⟩
  simp only[Bool.and_eq_true,decide_eq_true_eq,Option.isNone_iff_eq_none]
  refine⟨?_,h2,h3⟩
  cases hr:Dy (Ka xs) xs.length 0 with
  |none=>rfl
  |some j=>
   obtain⟨_,hj,hp,_⟩:=Un hr
   have hj':j<xs.length:=by omega
   simp only[Ka,decide_eq_true_eq,List.getD_eq_getElem?_getD,List.getElem?_eq_getElem hj',Option.getD_some] at hp
   have:=h1 _ (List.getElem_mem hj')
   omega
theorem B02 (H:Hp) (xs:List Bl) (hx:xs.length≤9223372036854775807):ev R 27 [.d (Bf xs)] H=some (.d (.bool (Jq xs)),H):=by
 refine Bo (fn:=f27) rfl rfl ?_
 obtain⟨e',he,h1,h2⟩:=B1d (Bc H) xs hx H xs.length 0 [(0, .d (Bf xs)),(3, .d (.int .i64 0))] (by omega) rfl rfl
 have p:=Pi (xs.length:Int) 1 8
 unfold Jq
 cases hr:Dy (Ka xs) xs.length 0 with
 |some j=>
  simp only[hr] at he
  simp[Ck,-List.getD_eq_getElem?_getD,-List.map_map,f27,he,h1 j hr,hr]
 |none=>
  simp only[hr] at he
  have h3:=h2 hr
  have q: (decide ((xs.length:Int)≥1) &&decide ((xs.length:Int)≤8))=(decide (1≤xs.length) &&decide (xs.length≤8)):=by
   congr 1<;>exact decide_eq_decide.2 (by omega)
  rw[q] at p
  simp[Ck,-List.getD_eq_getElem?_getD,-List.map_map,f27,he,h3,hr,Bf,p]
end Go.Proofs.YtedlandcnpjghaaGreatDoor.Code
