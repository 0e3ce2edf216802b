/- Lemmas (several texts in one). -/
import Derived.Test.YtedlandcnpjghaaGreatDoorMRecord5
import Derived.Test.YtedlandcnpjghaaGreatDoorMRecord6
import Derived.Test.YtedlandcnpjghaaGreatDoorMRecord8
set_option maxRecDepth 100000
set_option linter.unusedSimpArgs false
set_option linter.unusedVariables false
namespace Go.Proofs.YtedlandcnpjghaaGreatDoor.Code
open Go Go.Ev Go.Proofs
def Cg (xss:List (List Bl)):List D:=xss.map fun xs=>Bf xs
theorem Rt (xss:List (List Bl)) (i:Nat) (hi:i<xss.length): (Cg xss).getD i .nilp=Bf (xss.getD i []):=by
 simp[Cg,List.getD_eq_getElem?_getD,hi]
theorem Fx (xss:List (List Bl)): (Cg xss).length=xss.length:=by simp[Cg]
def B0v (n:Nat) (out:Bl):Bl:=if h:n=0 then out else B0v (n / 10) (UInt8.ofNat (48+n % 10)::out)
termination_by n
decreasing_by omega
def B1j (n:Nat):Bl:=if n=0 then[109,48] else 109::B0v n []
def Bec (at':Nat):Nat→List Bl
 |0=> []
 |n+1=>B1j at'::Bec (at'+1) n
theorem Bed: ∀ (n a:Nat),(Bec a n).length=n
 |0,_=>rfl
 |n+1,a=>by simp[Bec,Bed n (a+1)]
def Wj (a:Nat):List (List Bl)→List (List Bl)
 | []=> []
 |x::r=>Bec a x.length::Wj (a+x.length) r
theorem Wl: ∀ (xss:List (List Bl)) (a:Nat),(Wj a xss).length=xss.length
 | [],_=>rfl
 |x::r,a=>by simp[Wj,Wl r]
def Q6 (x:List Bl):List V:=(x.map D.str).map V.d
theorem Bvp (x:List Bl):Jc 0 x= .row 0 1 (Q6 x):=rfl
def Pq (k:Nat):List (List Bl)→List V
 | []=> []
 |x::r=> .slc k 0 0 x.length::Pq (k+1) r
theorem Um: ∀ (xss:List (List Bl)) (k:Nat),(Pq k xss).length=xss.length
 | [],_=>rfl
 |x::r,k=>by simp[Pq,Um r]
theorem Bdf {X:Hp} {r r' g:Nat} (o:Ev.Obj) (h:r'≠r):Ct (Bv X r o) r' g=Ct X r' g:=by
 simp only[Ct,Fs o h]
theorem Bsu {X:Hp} {r g:Nat} {p:Nat×List V} (h:Ct X r g=some p):r<Bc X:=by
 unfold Ct at h
 split at h
 ·rename_i hg;exact Fh hg
 ·simp at h
theorem Bar {X:Hp} {r:Nat} (g e:Nat) (xs:List V) (h:r<Bc X):Ct (Bv X r (.row g e xs)) r g=some (e,xs):=by
 simp[Ct,Ch _ h]
def Bb9 (X:Hp) (k b:Nat):List (List Bl)→Hp
 | []=>X
 |x::r=>Bb9 (Bv X k (Jc 0 (Bec b x.length))) (k+1) (b+x.length) r
theorem Bca: ∀ (xss:List (List Bl)) (X:Hp) (k b q g:Nat),q<k∨k+xss.length≤q→Ct (Bb9 X k b xss) q g=Ct X q g
 | [],_,_,_,_,_,_=>rfl
 |x::r,X,k,b,q,g,h=>by
  simp only[List.length_cons] at h
  rw[Bb9,Bca r _ _ _ _ _ (by omega),Bdf _ (by omega)]
theorem Beb: ∀ (xss:List (List Bl)) (X:Hp) (k b j:Nat),j<xss.length→k+xss.length≤Bc X→Ct (Bb9 X k b xss) (k+j) 0=some (1,Q6 ((Wj b xss).getD j []))
 |x::r,X,k,b,0,h,hX=>by
  simp only[List.length_cons] at hX
  rw[Bb9,Bca r _ _ _ _ _ (by omega),Nat.add_zero,Bvp,Bar _ _ _ (by omega)]
  rfl
 |x::r,X,k,b,j+1,h,hX=>by
  simp only[List.length_cons] at hX h
  rw[Bb9]
  have:=Beb r (Bv X k (Jc 0 (Bec b x.length))) (k+1) (b+x.length) j (by omega) (by rw[Br];omega)
  rw[show k+(j+1)=k+1+j by omega,this]
  rfl
theorem Z8: ∀ (xss:List (List Bl)) (k b:Nat),Pq k (Wj b xss)=Pq k xss
 | [],_,_=>rfl
 |x::r,k,b=>by simp only[Wj,Pq,Bed,Z8 r]
def Nest (X:Hp) (k:Nat) (xss:List (List Bl)):Prop:=(∀j,j<xss.length→Ct X (k+j) 0=some (1,Q6 (xss.getD j [])))∧Ct X (k+xss.length) 0=some (1,Pq k xss)
theorem Nest.push {X:Hp} {k:Nat} {xss:List (List Bl)} (h:Nest X k xss) (o:Ev.Obj):Nest (Bt X o) k xss:=
 ⟨fun j hj=>Gc (h.1 j hj),Gc h.2⟩
theorem Nest.mark {X:Hp} {k:Nat} {xss:List (List Bl)} (h:Nest X k xss) (b:Nat):Nest (Bb9 X k b xss) k (Wj b xss):=by
 have hl:=Bsu h.2
 refine⟨fun j hj=> ?_, ?_⟩
 ·rw[Wl] at hj
  exact Beb xss X k b j hj (by omega)
 ·rw[Wl,Bca xss X k b _ _ (by omega),Z8]
  exact h.2
theorem Bms {X:Hp} : ∀ (xss:List (List Bl)) (k:Nat),(∀j,j<xss.length→Ct X (k+j) 0=some (1,Q6 (xss.getD j [])))→Gv (fz 0 7 X) (Pq k xss)=some (Cg xss)
 | [],_,_=>rfl
 |x::r,k,h=>by
  have h0:=h 0 (by simp)
  simp only[Nat.add_zero,List.getD_cons_zero] at h0
  have f:=Sm (n:=0) (d:=6) (i:=0) (k:=x.length) (by omega) h0 (by simp[Q6]) (ys:=x.map D.str) (by
   rw[List.drop_zero,List.take_of_length_le (by simp[Q6])];exact Wi _)
  have ih:=Bms (X:=X) r (k+1) (fun j hj=>by
   have:=h (j+1) (by simp;omega)
   rw[show k+(j+1)=k+1+j by omega,List.getD_cons_succ] at this
   exact this)
  simp only[Pq,Gv,f,ih]
  rfl
theorem Nest.fz {X:Hp} {k:Nat} {xss:List (List Bl)} (h:Nest X k xss):Ev.fz 0 Qd X (.slc (k+xss.length) 0 0 xss.length)=some (.vals 1 (Cg xss)):=by
 have f:=Sm (n:=0) (d:=7) (i:=0) (k:=xss.length) (by omega) h.2 (by rw[Um];omega) (ys:=Cg xss) (by
  rw[List.drop_zero,List.take_of_length_le (by rw[Um];omega)];exact Bms xss k h.1)
 rw[show Qd=7+1 from rfl]
 exact f
theorem Bnf (xss:List (List Bl)) (k:Nat) (h:xss≠[]):Gi (Pq k xss)=none:=by
 cases xss with
 |nil=>exact absurd rfl h
 |cons x r=>rfl
theorem Nest.view {X:Hp} {k:Nat} {xss:List (List Bl)} (h:Nest X k xss) (hn:xss≠[]):Ev.R5 X (.slc (k+xss.length) 0 0 xss.length)=some (.vals 1 (Cg xss)):=by
 have h2:=h.2
 have h3:=h.fz
 have a:=Bnf xss k hn
 simp only[Ev.R5,J3,h2,a,Um,h3]
 simp
end Go.Proofs.YtedlandcnpjghaaGreatDoor.Code
