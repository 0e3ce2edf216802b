/- Lemmas (several texts in one). -/
import Derived.Test.YtedlandcnpjghaaGreatDoorMRecord7
import Derived.Test.YtedlandcnpjghaaGreatDoorMRecord10
import Derived.Test.YtedlandcnpjghaaGreatDoorMRecord11
import Derived.Lib.AtoiAllCases
import Derived.Lib.ItoaMem
set_option linter.unusedSimpArgs false
set_option linter.unusedVariables false
set_option maxRecDepth 100000
namespace Go.Proofs.YtedlandcnpjghaaGreatDoor.Code
open Go Go.Ev
def Qz (a:Nat) (c:UInt8):Nat:=10*a+(c.toNat - 48)
theorem Lt (a:Nat) (c:UInt8):Qz a c=10*a+(c.toNat - 48):=rfl
def Y3 (a:Nat) (l:Bl):Nat:=l.foldl Qz a
theorem M5 (a:Nat):Y3 a []=a:=by unfold Y3;exact List.foldl_nil
theorem Kh (a:Nat) (c:UInt8) (r:Bl):Y3 a (c::r)=Y3 (Qz a c) r:=by unfold Y3;exact List.foldl_cons ..
def Bqy (l:Bl):Prop:=∀c∈l,L8 c=true
theorem Bef: ∀ (l:Bl) (a:Nat) (c:UInt8),Y3 a (l++[c])=Qz (Y3 a l) c
 | [],a,c=>by rw[List.nil_append,Kh,M5,M5]
 |d::l,a,c=>by rw[List.cons_append,Kh,Kh,Bef l (Qz a d) c]
theorem Bmt: ∀ (l:Bl) (a:Nat),a≤Y3 a l
 | [],a=>by rw[M5];exact Nat.le_refl _
 |d::l,a=>by
  rw[Kh]
  have:=Bmt l (Qz a d)
  have:=Lt a d
  omega
theorem Tx (n:Nat):Bqy (C9 n):=by
 induction n using Nat.strongRecOn with
 |_ n ih=>
  rw[C9]
  split
  ·rename_i h
   intro c hc
   simp only[List.mem_singleton] at hc
   subst hc
   exact Sr h
  ·intro c hc
   rcases List.mem_append.1 hc with hc|hc
   ·exact ih (n / 10) (by omega) c hc
   ·simp only[List.mem_singleton] at hc
    subst hc
    exact Sr (by omega)
theorem Bbg (n:Nat):Y3 0 (C9 n)=n:=by
 induction n using Nat.strongRecOn with
 |_ n ih=>
  rw[C9]
  split
  ·rename_i h
   rw[Kh,M5,Lt,u8n (by omega)];omega
  ·rw[Bef,ih (n / 10) (by omega),Lt,u8n (by omega)];omega
theorem Yr (n:Nat) (h:1≤n): (C9 n).getD 0 0≠48∧1≤(C9 n).length:=by
 induction n using Nat.strongRecOn with
 |_ n ih=>
  rw[C9]
  split
  ·rename_i h9
   refine⟨?_,by simp⟩
   simp only[List.getD_cons_zero]
   intro e
   have:=(c48 _).1 e
   rw[u8n (by omega)] at this
   omega
  ·obtain⟨i1,i2⟩:=ih (n / 10) (by omega) (by omega)
   refine⟨?_,by simp⟩
   rw[List.getD_eq_getElem?_getD,List.getElem?_append_left (by omega),←List.getD_eq_getElem?_getD]
   exact i1
theorem Bnn (a:Nat) (c:UInt8) (ha:1≤a) (hc:L8 c=true):C9 (Qz a c)=C9 a++[c]:=by
 have b:=Md hc
 rw[Lt,C9,dif_neg (by omega)]
 have e1: (10*a+(c.toNat - 48)) / 10=a:=by omega
 have e2: (10*a+(c.toNat - 48)) % 10=c.toNat - 48:=by omega
 rw[e1,e2]
 have e3:48+(c.toNat - 48)=c.toNat:=by omega
 rw[e3]
 simp
theorem Bdo: ∀ (l:Bl) (a:Nat),1≤a→Bqy l→C9 (Y3 a l)=C9 a++l
 | [],a,_,_=>by rw[M5,List.append_nil]
 |c::r,a,ha,h=>by
  rw[Kh]
  have hc:=h c (by simp)
  rw[Bdo r _ (by have:=Md hc;have:=Lt a c;omega) fun d hd=>h d (by simp[hd]),Bnn a c ha hc]
  simp
theorem Bbu: ∀ (l:Bl) (i:Nat) (a:Nat),Bqy l→i+l.length≤10→Sl l i a=some ((Y3 a l:Nat):Int)
 | [],i,a,_,_=>by rw[M5];rfl
 |c::r,i,a,h,hl=>by
  have hc:=h c (by simp)
  have b:=Md hc
  simp only[List.length_cons] at hl
  rw[Kh]
  simp only[Sl,hc,if_true]
  rw[if_pos (by omega)]
  have e: (a:Int)*10+((c.toNat:Int) - 48)=((Qz a c:Nat):Int):=by rw[Lt];omega
  rw[e]
  exact Bbu r (i+1) _ (fun d hd=>h d (by simp[hd])) (by omega)
theorem Bd1: ∀ (l:Bl) (i:Nat) (a n:Int),Sl l i a=some n→Bqy l
 | [],_,_,_,_=>by intro c hc;simp at hc
 |c::r,i,a,n,h=>by
  simp only[Sl] at h
  split at h
  ·rename_i hc
   intro d hd
   rcases List.mem_cons.1 hd with rfl|hd
   ·exact hc
   ·exact Bd1 r _ _ _ h d hd
  ·cases h
theorem Bg3 (s:Bl) (h:0≤Ra s):s=C9 (Ra s).toNat:=by
 unfold Ra at h⊢
 cases hf:Sl s 0 0 with
 |none=>rw[hf] at h;simp at h
 |some n=>
  rw[hf] at h
  simp only at h⊢
  split at h
  ·omega
  ·rename_i hc
   rw[if_neg hc]
   have hd:=Bd1 s 0 0 n hf
   have hn:=Bbu s 0 0 hd (by omega)
   have e0: ((0:Nat):Int)=0:=rfl
   rw[e0,hf] at hn
   simp only[Option.some.injEq] at hn
   subst hn
   rw[Int.toNat_natCast]
   match s,hc,hd with
   | [],hc,_=>simp at hc
   | [c],hc,hd=>
    have b:=Md (hd c (by simp))
    have e3:48+Qz 0 c=c.toNat:=by rw[Lt];omega
    rw[Kh,M5,Bfa (by omega),e3];simp
   |c::d::r,hc,hd=>
    have b:=Md (hd c (by simp))
    have nz: ¬c.toNat=48:=by
     intro e
     have:=(c48 c).2 e
     subst this
     simp at hc
    have e3:48+Qz 0 c=c.toNat:=by rw[Lt];omega
    have e:=Bdo (d::r) (Qz 0 c) (by omega) (fun x hx=>hd x (List.mem_cons_of_mem _ hx))
    rw[Kh,e,Bfa (by omega),e3];simp
theorem Zl: ∀ (k n:Nat),n<10 ^ (k+1)→(C9 n).length≤k+1
 |0,n,h=>by rw[Bfa (by simpa using h)];simp
 |k+1,n,h=>by
  rw[C9]
  split
  ·simp
  ·have:=Zl k (n / 10) (by rw[Nat.pow_succ] at h;omega)
   simp only[List.length_append,List.length_singleton];omega
theorem Zt (n:Nat) (h:n≤1000000000):Ra (C9 n)=n:=by
 have l:=Zl 9 n (by omega)
 have f:=Bbu (C9 n) 0 0 (Tx n) (by omega)
 rw[Bbg] at f
 unfold Ra
 have e0: ((0:Nat):Int)=0:=rfl
 rw[e0] at f
 rw[f]
 simp only
 rw[if_neg]
 rintro(h1|h1| ⟨h1,h2⟩)
 ·by_cases hn:1≤n
  ·have:=(Yr n hn).2;omega
  ·have:n=0:=by omega
   subst this
   rw[Bfa (by omega)] at h1
   simp at h1
 ·omega
 ·by_cases hn:1≤n
  ·exact(Yr n hn).1 h2
  ·have:n=0:=by omega
   subst this
   rw[Bfa (by omega)] at h1
   simp at h1
theorem Bej: ∀ (l:Bl) (a:Nat),Bqy l→Y3 a l≤1000000000→Lib.parseUint10 a l= .ok (Y3 a l)
 | [],a,_,_=>by rw[M5];rfl
 |c::r,a,h,hn=>by
  have b:=Md (h c (by simp))
  rw[Kh] at hn⊢
  have g:=Bmt r (Qz a c)
  have sd:=Lt a c
  rw[Lib.parseUint10,if_pos b,if_neg (by omega),if_neg (by omega)]
  have e:a*10+(c.toNat - 48)=Qz a c:=by omega
  rw[e]
  exact Bej r _ (fun d hd=>h d (by simp[hd])) hn
theorem Tz (n:Nat):Lib.decDigits n=C9 n:=by
 induction n using Nat.strongRecOn with
 |_ n ih=>
  rw[Lib.decDigits,C9]
  split
  ·rfl
  ·rw[ih (n / 10) (by omega)]
theorem Bfb (n:Nat):C9 n≠[]:=by
 rw[C9]
 split<;>simp
theorem X4 (n:Nat) (h:n≤1000000000):Lib.parseMag (C9 n)= .ok n:=by
 unfold Lib.parseMag
 rw[if_neg (Bfb n),Bej (C9 n) 0 (Tx n) (by rw[Bbg];exact h),Bbg]
def Bhb (s:Bl):Int×Bool:=
 match Lib.atoiAll s with
 | .ok v=>if -1000000000≤v∧v≤1000000000∧Lib.itoa v=s then(v,true) else(0,false)
 | .range=> (0,false)
 | _=> (0,false)
theorem Bno (n:Nat) (h:n≤1000000000):Lib.atoiAll (C9 n)= .ok (n:Int):=by
 have hd:=Tx n
 have pm:=X4 n h
 cases e:C9 n with
 |nil=>exact absurd e (Bfb n)
 |cons c r=>
  rw[e] at hd pm
  have b:=Md (hd c (by simp))
  rw[Lib.atoiAll_plain c r (by omega) (by omega),pm]
  simp only[Lib.signless]
  rw[if_neg (by omega)]
theorem Sq (n:Nat) (h:n≤1000000000):Dv (C9 n)=((n:Int),true):=by
 unfold Dv
 have hd:=Tx n
 rw[if_neg,Zt n h,if_pos (by omega)]
 rintro⟨_,h2⟩
 cases e:C9 n with
 |nil=>exact absurd e (Bfb n)
 |cons c r=>
  rw[e] at hd h2
  have b:=Md (hd c (by simp))
  simp only[List.getD_cons_zero] at h2
  subst h2
  simp at b
theorem Brl (n:Nat) (h1:1≤n) (h:n≤1000000000):Dv (45::C9 n)=(-(n:Int),true):=by
 unfold Dv
 have:=(Yr n h1).2
 rw[if_pos ⟨by simp;omega,rfl⟩]
 simp only[List.drop_succ_cons,List.drop_zero]
 rw[Zt n h,if_pos (by omega)]
theorem Brj (n:Nat) (h:n≤1000000000):Bhb (C9 n)=((n:Int),true):=by
 unfold Bhb
 rw[Bno n h]
 simp only
 rw[if_pos ⟨by omega,by omega,by rw[Lib.itoa_nonneg,Tz]⟩]
theorem Bri (n:Nat) (h1:1≤n) (h:n≤1000000000):Bhb (45::C9 n)=(-(n:Int),true):=by
 unfold Bhb
 rw[Lib.atoiAll_minus,X4 n h]
 simp only[Lib.signed]
 rw[if_neg (by omega)]
 simp only
 rw[if_pos ⟨by omega,by omega,by rw[Lib.itoa_neg n h1,Tz]⟩]
theorem Brm (s:Bl):Bhb s=Dv s:=by
 by_cases c1: ∃n:Nat,n≤1000000000∧s=C9 n
 ·obtain⟨n,h,rfl⟩:=c1
  rw[Sq n h,Brj n h]
 ·by_cases c2: ∃n:Nat,1≤n∧n≤1000000000∧s=45::C9 n
  ·obtain⟨n,h1,h,rfl⟩:=c2
   rw[Brl n h1 h,Bri n h1 h]
  ·have e1:Dv s=(0,false):=by
    unfold Dv
    split
    ·rename_i h
     split
     ·rename_i hf
      exfalso
      apply c2
      refine⟨(Ra (s.drop 1)).toNat,by omega,by omega, ?_⟩
      rw[←Bg3 (s.drop 1) (by omega)]
      match s,h with
      |c::r,h=>
       have:=h.2
       simp only[List.getD_cons_zero] at this
       subst this
       rfl
     ·rfl
    ·split
     ·rename_i hf
      exfalso
      exact c1 ⟨(Ra s).toNat,by omega,Bg3 s (by omega)⟩
     ·rfl
   have e2:Bhb s=(0,false):=by
    unfold Bhb
    split
    ·rename_i v hv
     split
     ·rename_i h
      obtain⟨h1,h2,h3⟩:=h
      exfalso
      by_cases hneg:v<0
      ·apply c2
       refine⟨v.natAbs,by omega,by omega, ?_⟩
       rw[←h3]
       unfold Lib.itoa
       rw[if_pos hneg,Tz]
      ·apply c1
       refine⟨v.toNat,by omega, ?_⟩
       rw[←h3]
       unfold Lib.itoa
       rw[if_neg hneg,Tz]
     ·rfl
    ·rfl
    ·rfl
   rw[e1,e2]
end Go.Proofs.YtedlandcnpjghaaGreatDoor.Code
namespace Go.Proofs.YtedlandcnpjghaaGreatDoor.Code
open Go Go.Ev Go.Proofs
theorem B00 (H:Hp) (s:Bl) (hs:s.length≤1000000000000):ev R 20 [.d (.str s)] H=some (.tup [.d (.int .i64 (Dv s).1), .d (.bool (Dv s).2)],H):=by
 rw[←Brm]
 refine Bo (fn:=f20) rfl rfl ?_
 have p:=Bb (cl:=ev R) fun H=>B3n H s (by omega)
 unfold Bmd at p
 unfold Bhb
 cases h:Lib.atoiAll s with
 |ok v=>
  rw[h] at p
  have b:=Lib.atoiAll_bounds h
  have q:=Boe v (-1000000000) 1000000000
  have r:=Bb (cl:=ev R) fun H=>B01 H v (by omega)
  by_cases e1: -1000000000≤v
  ·by_cases e2:v≤1000000000
   ·by_cases e3:Lib.itoa v=s
    ·simp[Ck,-List.getD_eq_getElem?_getD,-List.map_map,f20,p,q,r,e1,e2,e3]
    ·simp[Ck,-List.getD_eq_getElem?_getD,-List.map_map,f20,p,q,r,e1,e2,e3]
   ·simp[Ck,-List.getD_eq_getElem?_getD,-List.map_map,f20,p,q,r,e1,e2]
  ·simp[Ck,-List.getD_eq_getElem?_getD,-List.map_map,f20,p,q,r,e1]
 |range=>
  rw[h] at p
  simp[Ck,-List.getD_eq_getElem?_getD,-List.map_map,f20,p]
 |_=>
  rw[h] at p
  simp[Ck,-List.getD_eq_getElem?_getD,-List.map_map,f20,p]
end Go.Proofs.YtedlandcnpjghaaGreatDoor.Code
