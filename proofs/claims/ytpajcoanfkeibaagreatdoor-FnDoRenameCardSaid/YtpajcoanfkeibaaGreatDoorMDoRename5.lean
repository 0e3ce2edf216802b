/- Lemmas (several texts in one). -/
import Derived.Test.YtpajcoanfkeibaaGreatDoorMDoRename4
import Derived.Lib.LaidTab
import Derived.Sort.Grow
import Derived.WalkSmall
import Derived.ChangeArms
import Derived.ChangeSlices
import Derived.OpenShut
import Derived.ChangeShapes
import Derived.Shelf.GgSortFunc.RowK
set_option linter.unusedSimpArgs false
set_option linter.unusedVariables false
namespace Go.Ev
open Go Go.Sort
def Brz (t:List (Nat×AFunc)) (glob:Gx) (prim:Nat→Option (List V→Hp→Option (V×Hp))):Prg:= { fns:=Brr t,glob:=glob,prim:=prim }
theorem Bom {P:Program} {t:List (Nat×AFunc)} {glob:Gx} {prim:Nat→Option (List V→Hp→Option (V×Hp))} (hm:P.follows .mixedOrders=true) (h: ∀p∈t,∃fn,P.funcs[p.1]? =some fn∧Bo P fn p.2=true)
  (hp: ∀k p,prim k=some p→∀args H r,p args H=some r→Nk P glob k args H r):PrgOk P (Brz t glob prim):=
 ⟨hm,fun _ _ hk=>h _ (Bgy hk),hp⟩
end Go.Ev
namespace Go.Ev
open Go Go.ChangeShapes Go.WideShapes
inductive Ty where
 |bool
 |int (k:IntKind)
 |str
 |slice (e:Ty)
 |fin
 |fld (f r:Ty)
def Ty.size:Ty→Nat
 | .fin=>0
 | .fld f r=>f.size+r.size
 |_=>1
def Ty.isAgg:Ty→Bool
 | .fin=>true
 | .fld _ _=>true
 |_=>false
section
variable {H:Type} {enc:TypeId×Value→H} {P:Program} {w:World} {base:Nat} {spare:Nat→Bool} {held:Bool}
end
end Go.Ev
namespace Go.Ev
open Go
def ap (H l:Hp):Hp:=(H:List Obj)++l
theorem ap0 (H:Hp) (o:Obj):Bt H o=ap H [o]:=rfl
theorem Bqx (H:Hp):ap H []=H:=List.append_nil _
theorem Ber (H l:Hp) (o:Obj):Bt (ap H l) o=ap H ((l:List Obj)++[o]):=by simp[ap,Bt]
theorem Yc (H l:Hp):Bc (ap H l)=Bc H+l.length:=by simp[ap,Bc]
theorem P5: ∀ (H:Hp) (r:Nat),Cf H r=H[r]?
 | [],_=>rfl
 |o::H,0=>rfl
 |o::H,r+1=>by simp only[Cf,List.getElem?_cons_succ,P5 H r]
theorem Ro: ∀ (H:Hp) (r:Nat) (o:Obj),Bz H r o=H.set r o
 | [],_,_=>rfl
 |x::H,0,_=>rfl
 |x::H,r+1,o=>by simp only[Bz,List.set_cons_succ,Ro H r]
theorem L8 (H l:Hp) (k:Nat):Cf (ap H l) (Bc H+k)=Cf l k:=by
 rw[P5,P5,ap,List.getElem?_append_right (by simp[Bc])]
 simp[Bc]
theorem Beq (H l:Hp):Cf (ap H l) (Bc H)=Cf l 0:=L8 H l 0
theorem Rc (H l:Hp) (k:Nat) (o:Obj):Bz (ap H l) (Bc H+k) o=ap H (Bz l k o):=by
 rw[Ro,Ro,ap,List.set_append_right _ _ (by simp[Bc])]
 simp[Bc,ap]
theorem Bmd (H l:Hp) (o:Obj):Bz (ap H l) (Bc H) o=ap H (Bz l 0 o):=Rc H l 0 o
theorem Lh (H l:Hp):Cx (ap H l) (Bc H)=H:=by simp[ap,Cx,Bc]
theorem Wu (H l:Hp) (k:Nat):Cx (ap H l) (Bc H+k)=ap H (l.take k):=by
 simp only[ap,Cx,Bc,List.take_append]
 rw[List.take_of_length_le (by omega)]
 congr 2
 omega
theorem Bjd (H:Hp) (k:Nat): ¬Bc H+k<Bc H:=by omega
theorem Bmc (H:Hp): ¬Bc H<Bc H:=by omega
theorem Bqu (H:Hp) (k:Nat): (Bc H).ble (Bc H+k)=true:=by simp
theorem Bl8 (H:Hp): (Bc H).ble (Bc H)=true:=by simp
theorem Bqv (H:Hp) (a b:Nat):Nat.blt (Bc H+a) (Bc H+b)=Nat.blt a b:=by
 rw[Bool.eq_iff_iff];simp
theorem Bmb (H:Hp) (b:Nat):Nat.blt (Bc H) (Bc H+b)=Nat.blt 0 b:=by
 rw[Bool.eq_iff_iff];simp
theorem Bep (H:Hp) (a:Nat):Nat.blt (Bc H+a) (Bc H)=false:=by
 cases h:Nat.blt (Bc H+a) (Bc H) with
 |false=>rfl
 |true=>simp at h;omega
theorem Bgb (H:Hp):Nat.blt (Bc H) (Bc H)=false:=by simpa using Bep H 0
theorem Bl9 (H:Hp) (a b:Nat):Nat.ble (Bc H+a) (Bc H+b)=Nat.ble a b:=by
 rw[Bool.eq_iff_iff];simp
theorem Bma (H:Hp) (a:Nat):Nat.ble (Bc H+(a+1)) (Bc H)=false:=by
 cases h:Nat.ble (Bc H+(a+1)) (Bc H) with
 |false=>rfl
 |true=>have:=Nat.le_of_ble_eq_true h;omega
theorem Tu: ∀ (ds:List D),Gt (ds.map V.d)=some ds
 | []=>rfl
 |x::r=>by simp only[List.map_cons,Gt,Tu r]
theorem Baq: ∀ (ds:List D) (vs:List V),Gt (ds.map V.d++vs)=(match Gt vs with|some es=>some (ds++es) |none=>none)
 | [],vs=>by
  rw[List.map_nil,List.nil_append]
  cases Gt vs<;>rfl
 |x::r,vs=>by
  simp only[List.map_cons,List.cons_append,Gt,Baq r vs]
  cases Gt vs<;>rfl
theorem P6: ∀ {vs:List V} {ds:List D} {n d:Nat} {H:Hp},Gt vs=some ds→Gq (fz n d H) vs=some ds
 | [],ds,_,_,_,h=>by simp only[Gt,Option.some.injEq] at h;subst h;rfl
 | .d x::r,ds,n,d,H,h=>by
  simp only[Gt] at h
  split at h
  ·rename_i xs hx
   simp only[Option.some.injEq] at h;subst h
   have:fz n d H (.d x)=some x:=by cases d<;>rfl
   simp only[Gq,this,P6 hx]
  ·simp at h
 | .agg _::_,_,_,_,_,h=>by simp[Gt] at h
 | .tup _::_,_,_,_,_,h=>by simp[Gt] at h
 | .slc _ _ _ _::_,_,_,_,_,h=>by simp[Gt] at h
 | .ptr _ _ _ _::_,_,_,_,_,h=>by simp[Gt] at h
 | .fn _ _::_,_,_,_,_,h=>by simp[Gt] at h
 | .mref _::_,_,_,_,_,h=>by simp[Gt] at h
 | .nils _::_,_,_,_,_,h=>by simp[Gt] at h
 | .und::_,_,_,_,_,h=>by simp[Gt] at h
 | .any::_,_,_,_,_,h=>by simp[Gt] at h
theorem Bqt: ∀ {vs:List V} {ds:List D},Gt vs=some ds→ds.length=vs.length:=fun h=>by
 have:=Ki h
 rw[this];simp
theorem Bqw {H l:Hp} {k g e n:Nat} {xs:List V} {ds:List D} (h1:Cf l k=some (.row g e xs)) (h2:Gt xs=some ds) (h3:n=ds.length):Ws (Bc H) (ap H l) (.slc (Bc H+k) g 0 n)=some (.d (.vals e ds)):=by
 have hr:Cw (ap H l) (Bc H+k) g=some (e,xs):=by
  unfold Cw
  rw[L8,h1]
  simp
 have hl:=Bqt h2
 have hm:Gq (fz (Bc H) 7 (ap H l)) ((xs.drop 0).take n)=some ds:=by
  rw[List.drop_zero,List.take_of_length_le (by omega)]
  exact P6 h2
 have:=Yu (n:=Bc H) (d:=7) (r:=Bc H+k) (g:=g) (i:=0) (k:=n) (by omega) hr (by omega) hm
 show(if Bc H+k<Bc H then _ else(match fz (Bc H) M7 _ (.slc (Bc H+k) g 0 n) with|some x=>some (V.d x) |none=>none))=_
 rw[if_neg (by omega),show M7=7+1 from rfl,this]
theorem B1v (H l:Hp) (d k g i n:Nat):fz (Bc H) (d+1) (ap H l) (.slc (Bc H+k) g i n)=(match Cf l k with
  |some (.row g' e xs)=>bif Nat.beq g' g then(if i+n≤xs.length then(match Gq (fz (Bc H) d (ap H l)) ((xs.drop i).take n) with|some ys=>some (.vals e ys) |none=>none) else none) else none
  |_=>none):=by
 simp only[fz,Cw,L8,if_neg (Bjd H k)]
 cases Cf l k with
 |none=>rfl
 |some o=>
  cases o with
  |dead=>rfl
  |map _ _=>rfl
  |row g' e xs=>
   cases h:Nat.beq g' g with
   |false=>simp only[h,cond_false]
   |true=>
    simp only[h,cond_true]
    split
    ·cases Gq (fz (Bc H) d (ap H l)) ((xs.drop i).take n)<;>rfl
    ·rfl
theorem Be7 (H l:Hp) (k g i n:Nat):Ws (Bc H) (ap H l) (.slc (Bc H+k) g i n)=(match Cf l k with
  |some (.row g' e xs)=>bif Nat.beq g' g then(if i+n≤xs.length then(match Gq (fz (Bc H) 7 (ap H l)) ((xs.drop i).take n) with|some ys=>some (.d (.vals e ys)) |none=>none) else none) else none
  |_=>none):=by
 have h:=B1v H l 7 k g i n
 show(if Bc H+k<Bc H then _ else(match fz (Bc H) (7+1) _ (.slc (Bc H+k) g i n) with|some x=>some (V.d x) |none=>none))=_
 rw[if_neg (by omega),h]
 cases Cf l k with
 |none=>rfl
 |some o=>
  cases o with
  |dead=>rfl
  |map _ _=>rfl
  |row g' e xs=>
   cases h:Nat.beq g' g with
   |false=>simp only[h,cond_false]
   |true=>
    simp only[h,cond_true]
    by_cases hi:i+n≤xs.length
    ·simp only[if_pos hi]
     cases Gq (fz (Bc H) 7 (ap H l)) ((xs.drop i).take n)<;>rfl
    ·simp only[if_neg hi]
theorem Bv8 (H l:Hp) (g i n:Nat):Ws (Bc H) (ap H l) (.slc (Bc H) g i n)=(match Cf l 0 with
  |some (.row g' e xs)=>bif Nat.beq g' g then(if i+n≤xs.length then(match Gq (fz (Bc H) 7 (ap H l)) ((xs.drop i).take n) with|some ys=>some (.d (.vals e ys)) |none=>none) else none) else none
  |_=>none):=Be7 H l 0 g i n
theorem Bhc (n d:Nat) (H:Hp) (f g:List V):Gq (fz n d H) (f++g)=(match Gq (fz n d H) f with|some a=> (match Gq (fz n d H) g with|some b=>some (a++b) |none=>none) |none=>none):=by
 induction f with
 |nil=>simp only[List.nil_append,Gq];cases Gq (fz n d H) g<;>rfl
 |cons x r ih=>
  simp only[List.cons_append,Gq,ih]
  cases fz n d H x<;>cases Gq (fz n d H) r<;>cases Gq (fz n d H) g<;>rfl
theorem B6j (n d:Nat) (H:Hp) (x:D):fz n d H (.d x)=some x:=by cases d<;>rfl
theorem B0l (cs:List V):V.cells (.agg cs)=cs:=rfl
theorem Bxs (cs:List D):V.cells (.d (.agg cs))=cs.map V.d:=rfl
theorem B0d (cs:List V):V.isAgg (.agg cs)=true:=rfl
theorem Bxk (cs:List D):V.isAgg (.d (.agg cs))=true:=rfl
theorem Bzh (cs:List D):D.cells (.agg cs)=cs:=rfl
theorem B0r (s:List UInt8):V.cells (.d (.str s))=[.d (.str s)]:=rfl
theorem B0j (s:List UInt8):V.isAgg (.d (.str s))=false:=rfl
theorem Bzk (s:List UInt8):D.cells (.str s)=[.str s]:=rfl
theorem B0o (k:IntKind) (n:Int):V.cells (.d (.int k n))=[.d (.int k n)]:=rfl
theorem B0g (k:IntKind) (n:Int):V.isAgg (.d (.int k n))=false:=rfl
theorem Bzj (k:IntKind) (n:Int):D.cells (.int k n)=[.int k n]:=rfl
theorem Bxr (b:Bool):V.cells (.d (.bool b))=[.d (.bool b)]:=rfl
theorem Bxj (b:Bool):V.isAgg (.d (.bool b))=false:=rfl
theorem Bvk (b:Bool):D.cells (.bool b)=[.bool b]:=rfl
theorem Bxy (e:Nat) (xs:List D):V.cells (.d (.vals e xs))=[.d (.vals e xs)]:=rfl
theorem Bxq (e:Nat) (xs:List D):V.isAgg (.d (.vals e xs))=false:=rfl
theorem Bvo (e:Nat) (xs:List D):D.cells (.vals e xs)=[.vals e xs]:=rfl
theorem Bxv:V.cells (.d (.nilp))=[.d (.nilp)]:=rfl
theorem Bxn:V.isAgg (.d (.nilp))=false:=rfl
theorem Bvm:D.cells (.nilp)=[.nilp]:=rfl
theorem Bxx (cs:List D):V.cells (.d (.rptr cs))=[.d (.rptr cs)]:=rfl
theorem Bxp (cs:List D):V.isAgg (.d (.rptr cs))=false:=rfl
theorem Bvn (cs:List D):D.cells (.rptr cs)=[.rptr cs]:=rfl
theorem B0m (f:Fn) (cs:List D):V.cells (.d (.fn f cs))=[.d (.fn f cs)]:=rfl
theorem B0e (f:Fn) (cs:List D):V.isAgg (.d (.fn f cs))=false:=rfl
theorem Bzi (f:Fn) (cs:List D):D.cells (.fn f cs)=[.fn f cs]:=rfl
theorem Btt:V.cells (.d (.nilfn))=[.d (.nilfn)]:=rfl
theorem Btr:V.isAgg (.d (.nilfn))=false:=rfl
theorem Bra:D.cells (.nilfn)=[.nilfn]:=rfl
theorem Bts (t:Nat) (x:D):V.cells (.d (.iface t x))=[.d (.iface t x)]:=rfl
theorem Btq (t:Nat) (x:D):V.isAgg (.d (.iface t x))=false:=rfl
theorem Bq9 (t:Nat) (x:D):D.cells (.iface t x)=[.iface t x]:=rfl
theorem Bp1:V.cells (.d (.niface))=[.d (.niface)]:=rfl
theorem Bp0:V.isAgg (.d (.niface))=false:=rfl
theorem Bn1:D.cells (.niface)=[.niface]:=rfl
theorem Bxu (ks vs:List D):V.cells (.d (.mval ks vs))=[.d (.mval ks vs)]:=rfl
theorem Bxm (ks vs:List D):V.isAgg (.d (.mval ks vs))=false:=rfl
theorem Bvl (ks vs:List D):D.cells (.mval ks vs)=[.mval ks vs]:=rfl
theorem B0q (r g i n:Nat):V.cells (.slc r g i n)=[.slc r g i n]:=rfl
theorem B0i (r g i n:Nat):V.isAgg (.slc r g i n)=false:=rfl
theorem B0p (r g i j:Nat):V.cells (.ptr r g i j)=[.ptr r g i j]:=rfl
theorem B0h (r g i j:Nat):V.isAgg (.ptr r g i j)=false:=rfl
theorem B0n (f:Fn) (cs:List V):V.cells (.fn f cs)=[.fn f cs]:=rfl
theorem B0f (f:Fn) (cs:List V):V.isAgg (.fn f cs)=false:=rfl
theorem Bxt (r:Nat):V.cells (.mref r)=[.mref r]:=rfl
theorem Bxl (r:Nat):V.isAgg (.mref r)=false:=rfl
theorem Bxw (e:Nat):V.cells (.nils e)=[.nils e]:=rfl
theorem Bxo (e:Nat):V.isAgg (.nils e)=false:=rfl
theorem B0s:V.cells (.und)=[.und]:=rfl
theorem B0k:V.isAgg (.und)=false:=rfl
theorem Bl7 (H l m:Hp):ap (ap H l) m=ap H ((l:List Obj)++m):=by simp[ap]
def ACode.hd:ACode→ACode| .seq a _ _=>a|c=>c
def ACode.lv:ACode→List Nat| .seq _ l _=>l|_=> []
def ACode.tl:ACode→ACode| .seq _ _ b=>b|c=>c
section
variable {F:St→Option (Out×St)} {lv:List Nat}
theorem Pv {st st':St} (h:F ⟨st.env.keep lv,st.hp⟩=some (.normal,st')):Bg F lv st=Bg F lv st':=by
 rw[Bu,h]
theorem Gg {st st':St} {o:Out} (h:F ⟨st.env.keep lv,st.hp⟩=some (o,st')) (ho:o≠ .normal):Bg F lv st=some (o,st'):=by
 rw[Bu,h]
 cases o with
 |normal=>exact absurd rfl ho
 |exit id=>rfl
 |ret=>rfl
def Bsw {σ ρ:Type} (f:Nat→σ→σ ⊕ ρ):Nat→Nat→σ→σ ⊕ ρ
 |0,_,s=> .inl s
 |n+1,i,s=>
  match f i s with
  | .inl s'=>Bsw f n (i+1) s'
  | .inr r=> .inr r
def Gives (Q:Out→Env→Hp→Prop) (r:Option (Out×St)):Prop:=
 match r with
 |some (o,⟨e,X⟩)=>Q o e X
 |none=>False
theorem U7 (Q:Out→Env→Hp→Prop) (o:Out) (e:Env) (X:Hp):Gives Q (some (o,⟨e,X⟩))=Q o e X:=rfl
theorem Gives.out {Q:Out→Env→Hp→Prop} {r:Option (Out×St)} (h:Gives Q r): ∃o e X,r=some (o,⟨e,X⟩)∧Q o e X:=by
 match r,h with
 |some (o,⟨e,X⟩),h=>exact⟨o,e,X,rfl,h⟩
def X9 (Rep:Env→Hp→Prop) (Done:Out→Env→Hp→Prop):Out→Env→Hp→Prop
 | .normal,e,X=>Rep e X
 | .exit id,e,X=>Done (.exit id) e X
 | .ret,e,X=>Done .ret e X
theorem Bio (R:Env→Hp→Prop) (D:Out→Env→Hp→Prop) (e:Env) (X:Hp):X9 R D .normal e X=R e X:=rfl
theorem Bpy (R:Env→Hp→Prop) (D:Out→Env→Hp→Prop) (e:Env) (X:Hp) (id:Nat):X9 R D (.exit id) e X=D (.exit id) e X:=rfl
theorem Bte (R:Env→Hp→Prop) (D:Out→Env→Hp→Prop) (e:Env) (X:Hp):X9 R D .ret e X=D .ret e X:=rfl
def Bvb {σ ρ:Type} (Done:σ→Out→Env→Hp→Prop) (Quit:ρ→Out→Env→Hp→Prop) (x:σ ⊕ ρ):Out→Env→Hp→Prop:=match x with
 | .inl s=>Done s
 | .inr q=>Quit q
def Bl3 {σ ρ:Type} (Rep:σ→Env→Hp→Prop) (Quit:ρ→Out→Env→Hp→Prop) (x:σ ⊕ ρ):Out→Env→Hp→Prop:=match x with
 | .inl s=>fun o e X=>o= .normal∧Rep s e X
 | .inr q=>fun o e X=>o≠ .normal∧Quit q o e X
theorem Bbp {σ ρ:Type} (f:Nat→σ→σ ⊕ ρ) (N:Nat) (Rep:Nat→σ→Env→Hp→Prop) (Done:σ→Out→Env→Hp→Prop) (Quit:ρ→Out→Env→Hp→Prop)
  (hend: ∀s e X,Rep N s e X→Gives (fun o e X=>o≠ .normal∧Done s o e X) (F ⟨e.keep lv,X⟩))
  (hstep: ∀i s e X,i<N→Rep i s e X→Gives (Bl3 (Rep (i+1)) Quit (f i s)) (F ⟨e.keep lv,X⟩)):
  ∀ (n i:Nat) (s:σ) (e:Env) (X:Hp),i+n=N→Rep i s e X→Gives (Bvb Done Quit (Bsw f n i s)) (Bg F lv ⟨e,X⟩)
 |0,i,s,e,X,hn,hr=>by
  obtain rfl:i=N:=by omega
  obtain⟨o,e',X',h1,h2,h3⟩:=(hend s e X hr).out
  rw[Gg h1 h2]
  exact h3
 |n+1,i,s,e,X,hn,hr=>by
  obtain⟨o,e',X',h1,h⟩:=(hstep i s e X (by omega) hr).out
  simp only[Bsw]
  cases hf:f i s with
  |inl s'=>
   rw[hf] at h
   obtain⟨rfl,h2⟩:=h
   simp only
   rw[Pv h1]
   exact Bbp f N Rep Done Quit hend hstep n (i+1) s' e' X' (by omega) h2
  |inr q=>
   rw[hf] at h
   obtain⟨h2,h3⟩:=h
   rw[Gg h1 h2]
   exact h3
theorem Xk {σ:Type} (f:Nat→σ→σ) (N:Nat) (Rep:Nat→σ→Env→Hp→Prop) (Done:σ→Out→Env→Hp→Prop)
  (hend: ∀s e X,Rep N s e X→Gives (fun o e X=>o≠ .normal∧Done s o e X) (F ⟨e.keep lv,X⟩))
  (hstep: ∀i s e X,i<N→Rep i s e X→Gives (fun o e X=>o= .normal∧Rep (i+1) (f i s) e X) (F ⟨e.keep lv,X⟩)):
  ∀ (n i:Nat) (s:σ) (e:Env) (X:Hp),i+n=N→Rep i s e X→Gives (Done ((List.range' i n).foldl (fun s i=>f i s) s)) (Bg F lv ⟨e,X⟩)
 |0,i,s,e,X,hn,hr=>by
  obtain rfl:i=N:=by omega
  obtain⟨o,e',X',h1,h2,h3⟩:=(hend s e X hr).out
  rw[Gg h1 h2]
  exact h3
 |n+1,i,s,e,X,hn,hr=>by
  obtain⟨o,e',X',h1,rfl,h2⟩:=(hstep i s e X (by omega) hr).out
  rw[Pv h1,List.range'_succ,List.foldl_cons]
  exact Xk f N Rep Done hend hstep n (i+1) (f i s) e' X' (by omega) h2
theorem C8 (N:Nat) (Rep:Nat→Env→Hp→Prop) (Done:Out→Env→Hp→Prop)
  (hend: ∀e X,Rep N e X→Gives (fun o e X=>o≠ .normal∧Done o e X) (F ⟨e.keep lv,X⟩))
  (hstep: ∀i e X,i<N→Rep i e X→Gives (X9 (Rep (i+1)) Done) (F ⟨e.keep lv,X⟩)):
  ∀ (n i:Nat) (e:Env) (X:Hp),i+n=N→Rep i e X→Gives Done (Bg F lv ⟨e,X⟩)
 |0,i,e,X,hn,hr=>by
  obtain rfl:i=N:=by omega
  obtain⟨o,e',X',h1,h2,h3⟩:=(hend e X hr).out
  rw[Gg h1 h2]
  exact h3
 |n+1,i,e,X,hn,hr=>by
  obtain⟨o,e',X',h1,h2⟩:=(hstep i e X (by omega) hr).out
  cases o with
  |normal=>
   rw[Pv h1]
   exact C8 N Rep Done hend hstep n (i+1) e' X' (by omega) h2
  |exit id=>rw[Gg h1 (by simp)];exact h2
  |ret=>rw[Gg h1 (by simp)];exact h2
theorem Bbq (I:Nat→Env→Hp→Prop) (Done:Out→Env→Hp→Prop)
  (hs: ∀n e X,I n e X→Gives (X9 (fun e X=> ∃m,m<n∧I m e X) Done) (F ⟨e.keep lv,X⟩)):
  ∀ (n:Nat) (e:Env) (X:Hp),I n e X→Gives Done (Bg F lv ⟨e,X⟩):=by
 intro n
 induction n using Nat.strongRecOn with
 |ind n ih=>
  intro e X h
  obtain⟨o,e',X',h1,h2⟩:=(hs n e X h).out
  cases o with
  |normal=>
   obtain⟨m,hm,h3⟩:=h2
   rw[Pv h1]
   exact ih m hm e' X' h3
  |exit id=>rw[Gg h1 (by simp)];exact h2
  |ret=>rw[Gg h1 (by simp)];exact h2
end
end Go.Ev
namespace Go.Ev
open Go Go.Sort
def Zu (m:Bool) (v:V):Option (Int×List UInt8):=match m,v.cells with
 |false, .d (.str s)::_=>some (0,s)
 |true, .d (.str s):: .d (.int .i64 n)::_=>some (n,s)
 |_,_=>none
def wd (m:Bool) (e:Nat):Nat:=e+1+m.toNat
theorem Blw (m:Bool) (e:Nat):0<wd m e:=by unfold wd;omega
theorem Bu4 (e:Nat):1<wd true e:=by unfold wd;simp
structure Elt (m:Bool) (e:Nat) where
 v:V
 us:List Value
 len:us.length=wd m e
 one: ∀u∈us,u.oneCell'=true
 n:Int
 t:ByteArray
 hd:us.getD 0 undef= .string t
 hn:m=true→us.getD 1 undef= .int .i64 n
 hv:Zu m v=some (n,t.data.toList)
instance (m:Bool) (e:Nat):Inhabited (Elt m e):=
 ⟨⟨match m with|false=> .d (.agg [.str []]) |true=> .d (.agg [.str [], .int .i64 0]), .string ByteArray.empty:: (match m with|false=> [] |true=> [.int .i64 0])++List.replicate e (.bool false),by cases m<;>simp[wd]<;>omega,by
  intro u hu
  cases m
  ·rcases List.mem_cons.1 hu with h|h
   ·rw[h];rfl
   ·rw[List.eq_of_mem_replicate h];rfl
  ·rcases List.mem_cons.1 hu with h|h
   ·rw[h];rfl
   ·rcases List.mem_cons.1 h with h|h
    ·rw[h];rfl
    ·rw[List.eq_of_mem_replicate h];rfl,0,ByteArray.empty,by cases m<;>rfl,by cases m<;>simp,by cases m<;>rfl⟩⟩
def Elt.key {m:Bool} {e:Nat} (x:Elt m e):Int×List UInt8:=(x.n,x.t.data.toList)
def Bzb (x y:List UInt8):Int:=if Op.bytesLess x y=true then -1 else if Op.bytesLess y x=true then 1 else 0
def Bav (x y:Int×List UInt8):Int:=if x.1<y.1 then -1 else if y.1<x.1 then 1 else Bzb x.2 y.2
def ltK (x y:Int×List UInt8):Bool:=decide (x.1<y.1) || (decide (x.1=y.1) &&Op.bytesLess x.2 y.2)
def Elt.cf {m:Bool} {e:Nat} (x y:Elt m e):Int:=Bav x.key y.key
theorem Bq3: ∀ (x y:List UInt8),Op.bytesLess x y=decide (x<y):=by
 intro x y
 induction x generalizing y with
 |nil=>cases y<;>simp[Op.bytesLess]
 |cons a x ih=>
  cases y with
  |nil=>simp[Op.bytesLess]
  |cons b y=>
   simp only[Op.bytesLess,ih,List.cons_lt_cons_iff]
   by_cases h1:a<b
   ·simp[h1]
   ·by_cases h2:a=b<;>simp[h1,h2]
theorem Bq5 {x y z:List UInt8} (h1:Op.bytesLess x y=true) (h2:Op.bytesLess y z=true):Op.bytesLess x z=true:=by
 rw[Bq3,decide_eq_true_eq] at*
 exact List.lt_trans h1 h2
theorem Bnw (x:List UInt8):Op.bytesLess x x=false:=by
 rw[Bq3,decide_eq_false_iff_not]
 exact List.lt_irrefl x
theorem Bq4 {x y:List UInt8} (h1:Op.bytesLess x y=false) (h2:Op.bytesLess y x=false):x=y:=by
 rw[Bq3,decide_eq_false_iff_not] at*
 exact List.le_antisymm (List.not_lt.1 h2) (List.not_lt.1 h1)
theorem Bvg (x y:List UInt8):decide (Bzb x y<0)=Op.bytesLess x y:=by
 unfold Bzb
 cases h:Op.bytesLess x y<;>cases h2:Op.bytesLess y x<;>simp[h,h2]
theorem Bac (x y:Int×List UInt8):decide (Bav x y<0)=ltK x y:=by
 unfold Bav ltK
 by_cases h1:x.1<y.1
 ·simp[h1]
 ·by_cases h2:y.1<x.1
  ·simp[h1,h2,show ¬x.1=y.1 by omega]
  ·rw[if_neg h1,if_neg h2,Bvg]
   simp[h1,show x.1=y.1 by omega]
theorem Bbr (x:Int×List UInt8):ltK x x=false:=by simp[ltK,Bnw]
theorem Yw {x y z:Int×List UInt8} (h1:ltK x y=true) (h2:ltK y z=true):ltK x z=true:=by
 simp only[ltK,Bool.or_eq_true,Bool.and_eq_true,decide_eq_true_eq] at*
 rcases h1 with h1| ⟨h1,h1'⟩<;>rcases h2 with h2| ⟨h2,h2'⟩
 ·left;omega
 ·left;omega
 ·left;omega
 ·right;exact⟨by omega,Bq5 h1' h2'⟩
theorem Bdx {x y:Int×List UInt8} (h1:ltK x y=false) (h2:ltK y x=false):x=y:=by
 simp only[ltK,Bool.or_eq_false_iff,Bool.and_eq_false_iff,decide_eq_false_iff_not] at h1 h2
 have e:x.1=y.1:=by omega
 refine Prod.ext e (Bq4 ?_ ?_)
 ·rcases h1.2 with h|h
  ·exact absurd e h
  ·exact h
 ·rcases h2.2 with h|h
  ·exact absurd e.symm h
  ·exact h
theorem Bbs {x y z:Int×List UInt8} (h1:ltK x y=false) (h2:ltK y z=false):ltK x z=false:=by
 cases h:ltK x z with
 |false=>rfl
 |true=>
  cases h3:ltK z y with
  |true=>rw[Yw h h3] at h1;simp at h1
  |false=>rw[Bdx h2 h3] at h1;rw[h1] at h;simp at h
theorem Elt.swo (m:Bool) (e:Nat):SWO (fun x y:Elt m e=>decide (Elt.cf x y<0)) where
 irrefl x:=by
  show decide (Bav x.key x.key<0)=false
  rw[Bac,Bbr]
 trans x y z h1 h2:=by
  have h1':decide (Bav x.key y.key<0)=true:=h1
  have h2':decide (Bav y.key z.key<0)=true:=h2
  show decide (Bav x.key z.key<0)=true
  rw[Bac] at*
  exact Yw h1' h2'
 ntrans x y z h1 h2:=by
  have h1':decide (Bav x.key y.key<0)=false:=h1
  have h2':decide (Bav y.key z.key<0)=false:=h2
  show decide (Bav x.key z.key<0)=false
  rw[Bac] at*
  exact Bbs h1' h2'
def leV (m:Bool) (a b:V):Bool:= !ltK ((Zu m b).getD (0,[])) ((Zu m a).getD (0,[]))
def X3 (m:Bool) (xs:List V):List V:=xs.mergeSort (leV m)
theorem Boi (m:Bool) (a b c:V) (h1:leV m a b=true) (h2:leV m b c=true):leV m a c=true:=by
 simp only[leV,Bool.not_eq_true'] at*
 exact Bbs h2 h1
theorem Boh (m:Bool) (a b:V): (leV m a b||leV m b a)=true:=by
 simp only[leV]
 cases h:ltK ((Zu m b).getD (0,[])) ((Zu m a).getD (0,[])) with
 |false=>rfl
 |true=>
  cases h2:ltK ((Zu m a).getD (0,[])) ((Zu m b).getD (0,[])) with
  |false=>rfl
  |true=>have:=Yw h h2;rw[Bbr] at this;simp at this
theorem X4 {m:Bool} {xs ys:List V} (hp:ys.Perm xs) (hs:ys.Pairwise fun a b=>leV m a b=true) (hk: ∀x∈xs,(Zu m x).isSome=true) (hnd: ∀a∈xs,∀b∈xs,Zu m a=Zu m b→a=b):ys=X3 m xs:=by
 refine List.Perm.eq_of_pairwise (le:=fun a b=>leV m a b=true) ?_ hs (List.pairwise_mergeSort (Boi m) (Boh m) xs) (hp.trans (List.mergeSort_perm xs (leV m)).symm)
 intro a b ha hb h1 h2
 have ha':=hp.mem_iff.1 ha
 have hb':b∈xs:=(List.mergeSort_perm xs (leV m)).mem_iff.1 hb
 simp only[leV,Bool.not_eq_true'] at h1 h2
 have hkk:=Bdx h1 h2
 obtain⟨s,hs⟩:=Option.isSome_iff_exists.1 (hk a ha')
 obtain⟨t,ht⟩:=Option.isSome_iff_exists.1 (hk b hb')
 rw[hs,ht] at hkk
 simp only[Option.getD_some] at hkk
 exact hnd a ha' b hb' (by rw[hs,ht,hkk])
def Bqp (P:Program) (m:Bool) (k g e:Nat):Prop:=∀ (Gu cap:Nat) (d:Array (Elt m e)) (w:World),HoldsK Elt.us (wd m e) w Gu 0 d→Gu<w.heap.size→d.size<4611686018427387904→
 Calls P k #[.slice (some ⟨Gu,0,none⟩) d.size cap, .func (.func g) #[] #[]] w fun ex w'=>ex= .returned (.tuple #[])∧∃ (d':Array (Elt m e)) (q:Nat) (os:Array Go.Obj),
  PermIn 0 d.size d d'∧SortedIn (fun x y=>decide (Elt.cf x y<0)) 0 d.size d'∧w'=grow (putRowK Elt.us (wd m e) (Go.Sort.ahead w q) Gu 0 d') os
theorem Bjq {m:Bool} {i j e:Nat} (hj:j<wd m e): (i*(wd m e)+j) / (wd m e)=i∧(i*(wd m e)+j) % (wd m e)=j:=by
 constructor
 ·rw[Nat.mul_comm,Nat.mul_add_div (by omega),Nat.div_eq_of_lt hj,Nat.add_zero]
 ·rw[Nat.mul_comm,Nat.mul_add_mod,Nat.mod_eq_of_lt hj]
theorem Bo5 {P:Program} {G:Gx} {m:Bool} {k g e:Nat} (hf:FnOk P k) (hS:Bqp P m k g e) {r gg:Nat} {xs:List V} {H:Hp} (hrow:Cw H r gg=some (wd m e,xs)) (hbig:xs.length<4611686018427387904)
  (hk: ∀x∈xs,(Zu m x).isSome=true) (hnd: ∀a∈xs,∀b∈xs,Zu m a=Zu m b→a=b):
  Nk P G k [.slc r gg 0 xs.length, .d (.fn (.func g) [])] H (.tup [],Bz H r (.row gg (wd m e) (X3 m xs))):=by
 refine⟨hf,fun w pl Bd us hH hG hR=> ?_⟩
 obtain⟨bl,c,arr,ty,fr,hpl,hh,hsa,hfr,hxc,he,hr,h1,hbd⟩:=Jf hH hrow
 obtain⟨hus,hR⟩:=hR
 have a0:=hR 0 (by simp)
 have a1:=hR 1 (by simp)
 simp only[List.getD_cons_zero,List.getD_cons_succ] at a0 a1
 have hus2:us= #[us.getD 0 undef,us.getD 1 undef]:=by
  have h2:us.size=2:=by simpa using hus
  apply Array.ext
  ·simpa using h2
  ·intro i hi1 hi2
   have:i=0∨i=1:=by omega
   rcases this with rfl|rfl<;>simp[Array.getD,h2]
 generalize us.getD 0 undef=u0 at a0 hus2
 generalize us.getD 1 undef=u1 at a1 hus2
 subst hus2
 have hel: ∀i,i<xs.length→∃x:Elt m e,x.v=xs.getD i .any∧x.us=(List.range (wd m e)).map fun j=>arr.getD (i*(wd m e)+j) undef:=by
  intro i hi
  have hmem:xs.getD i .any∈xs:=by
   rw[List.getD_eq_getElem?_getD,List.getElem?_eq_getElem hi]
   exact List.getElem_mem hi
  obtain⟨⟨q,s⟩,hs⟩:=Option.isSome_iff_exists.1 (hk _ hmem)
  have hc0: (xs.getD i .any).cells.getD 0 .any= .d (.str s)∧(m=true→(xs.getD i .any).cells.getD 1 .any= .d (.int .i64 q)):=by
   have hs2:=hs
   unfold Zu at hs2
   split at hs2
   ·rename_i heq
    simp only[Option.some.injEq,Prod.mk.injEq] at hs2
    obtain⟨rfl,rfl⟩:=hs2
    rw[heq];exact⟨rfl,fun h=>by simp at h⟩
   ·rename_i heq
    simp only[Option.some.injEq,Prod.mk.injEq] at hs2
    obtain⟨rfl,rfl⟩:=hs2
    rw[heq];exact⟨rfl,fun _=>rfl⟩
   ·simp at hs2
  have hrc:=hr i 0 hi (Blw m e)
  rw[hc0.1,Nat.add_zero] at hrc
  have hex: ∃t:ByteArray,arr.getD (i*(wd m e)) undef= .string t∧t.data.toList=s:=by
   generalize arr.getD (i*(wd m e)) undef=u at hrc
   cases hrc with
   |d _ _ h=>cases h with|str _ t ht=>exact⟨t,rfl,ht⟩
  have hex2:m=true→arr.getD (i*(wd m e)+1) undef= .int .i64 q:=by
   intro hm
   have hrc:=hr i 1 hi (by rw[hm];exact Bu4 e)
   rw[hc0.2 hm] at hrc
   generalize arr.getD (i*(wd m e)+1) undef=u at hrc
   cases hrc with
   |d _ _ h=>cases h with|int _ _=>rfl
  obtain⟨t,ht,hts⟩:=hex
  have hz: ∀j,j<wd m e→((List.range (wd m e)).map fun j=>arr.getD (i*(wd m e)+j) undef).getD j undef=arr.getD (i*(wd m e)+j) undef:=fun j hj=>by
   simp[List.getD_eq_getElem?_getD,hj]
  refine⟨⟨xs.getD i .any,(List.range (wd m e)).map fun j=>arr.getD (i*(wd m e)+j) undef,by simp, ?_,q,t, ?_, ?_, ?_⟩,rfl,rfl⟩
  ·intro u hu
   obtain⟨j,hj,rfl⟩:=List.mem_map.1 hu
   exact h1 i j hi (by simpa using hj)
  ·rw[hz 0 (Blw m e)]
   exact ht
  ·intro hm
   rw[hz 1 (by rw[hm];exact Bu4 e)]
   exact hex2 hm
  ·rw[hs,hts]
 let d:Array (Elt m e):=Array.ofFn (n:=xs.length) fun i=>Classical.choose (hel i.1 i.2)
 have hdn:d.size=xs.length:=by simp[d]
 have hdv: ∀i,i<xs.length→d[i]!.v=xs.getD i .any∧d[i]!.us=(List.range (wd m e)).map fun j=>arr.getD (i*(wd m e)+j) undef:=by
  intro i hi
  rw[getElem!_pos d i (by omega)]
  simp only[d,Array.getElem_ofFn]
  exact Classical.choose_spec (hel i hi)
 have husj: ∀i j,i<xs.length→j<wd m e→(d[i]!.us)[j]! =arr.getD (i*(wd m e)+j) undef:=by
  intro i j hi hj
  rw[(hdv i hi).2,getElem!_pos _ j (by simpa using hj)]
  simp
 have hH1:HoldsK Elt.us (wd m e) w bl 0 d:=by
  intro j hj
  rw[size_flatK,hdn] at hj
  have hq:j / (wd m e)<xs.length:=Nat.div_lt_of_lt_mul (by rw[Nat.mul_comm];exact hj)
  have hm:j % (wd m e)<wd m e:=Nat.mod_lt _ (Blw m e)
  have hja:j<arr.size:=by rw[hsa];exact Nat.lt_of_lt_of_le hj (Nat.mul_le_mul_right _ hxc)
  rw[get_flatK _ _ _ _ (by rw[hdn];exact hj),husj _ _ hq hm,Nat.mul_comm,Nat.div_add_mod,Nat.zero_add]
  refine⟨F5 hh hja, ?_⟩
  have:=hfr j hja
  simp only[World.frozen?,hh]
  simp only[Bool.and_eq_false_iff,decide_eq_false_iff_not]
  omega
 have hblk:bl<w.heap.size:=by
  rcases Nat.lt_or_ge bl w.heap.size with h|h
  ·exact h
  ·rw[Array.getElem?_eq_none h] at hh;simp at hh
 have hu0: ∃cap,u0= .slice (some ⟨bl,0,none⟩) xs.length cap:=by
  generalize xs.length=n at a0
  cases a0 with
  |slc _ _ _ _ b' e' c' hlt hp' hk'=>
   rw[hpl] at hp'
   simp only[Option.some.injEq,Prod.mk.injEq] at hp'
   obtain⟨rfl,rfl,rfl⟩:=hp'
   rw[Nat.zero_mul]
   exact⟨_,rfl⟩
  |slc0 _ _ _ _ _ hi=>exact absurd hi (Nat.lt_irrefl 0)
 have hu1:u1= .func (.func g) #[] #[]:=by
  cases a1 with
  |d _ _ hfn=>cases hfn with
   |fn _ _ us' hl' _=>
    have hus':us'= #[]:=by simpa using hl'
    rw[hus']
 obtain⟨cap,rfl⟩:=hu0
 subst hu1
 have hcall:=hS bl cap d w hH1 hblk (by rw[hdn];exact hbig)
 rw[hdn] at hcall
 refine hcall.mono fun ex w' hex=> ?_
 obtain⟨rfl,d',q0,os,hperm,hsort,rfl⟩:=hex
 obtain⟨hsz,-,hpm⟩:=hperm
 have hd'n:d'.size=xs.length:=hsz.trans hdn
 have e1:d'.extract 0 xs.length=d':=by rw[←hd'n];exact Array.extract_size
 have e2:d.extract 0 xs.length=d:=by rw[←hdn];exact Array.extract_size
 rw[e1,e2] at hpm
 have hdx:d.toList.map (·.v)=xs:=by
  apply List.ext_getElem
  ·simp[hdn]
  ·intro i hi1 hi2
   have:=(hdv i hi2).1
   rw[getElem!_pos d i (by omega),List.getD_eq_getElem?_getD,List.getElem?_eq_getElem hi2] at this
   simpa using this
 have hyp: (d'.toList.map (·.v)).Perm xs:=by
  have:=hpm.map (·.v)
  rwa[hdx] at this
 have hys: (d'.toList.map (·.v)).Pairwise fun a b=>leV m a b=true:=by
  rw[List.pairwise_iff_getElem]
  intro i j hi hj hij
  have hi':i<d'.size:=by simpa using hi
  have hj':j<d'.size:=by simpa using hj
  have h:=hsort i j (Nat.zero_le _) hij (by omega)
  rw[getElem!_pos d' i hi',getElem!_pos d' j hj'] at h
  have h2:decide (Bav d'[j].key d'[i].key<0)=false:=h
  rw[Bac] at h2
  simp only[List.getElem_map,Array.getElem_toList,leV,d'[j].hv,d'[i].hv,Option.getD_some,Bool.not_eq_true']
  exact h2
 have hyx:=X4 hyp hys hk hnd
 have hsl: (X3 m xs).length=xs.length:=(List.mergeSort_perm xs (leV m)).length_eq
 have hsi: ∀i,i<xs.length→(X3 m xs).getD i .any=d'[i]!.v:=by
  intro i hi
  rw[←hyx,getElem!_pos d' i (by omega),List.getD_eq_getElem?_getD,List.getElem?_map,Array.getElem?_toList,Array.getElem?_eq_getElem (by omega)]
  rfl
 have hback: ∀i,i<xs.length→∃i0,i0<xs.length∧d'[i]! =d[i0]! :=by
  intro i hi
  have hm:d'[i]! ∈d.toList:=by
   rw[←hpm.mem_iff,getElem!_pos d' i (by omega)]
   exact Array.getElem_mem_toList _
  obtain⟨i0,h0,heq⟩:=List.getElem_of_mem hm
  have h0':i0<d.size:=by simpa using h0
  refine⟨i0,by omega, ?_⟩
  rw[getElem!_pos d i0 h0',←heq]
  simp
 let arr':Array Value:=putCells id 0 (flatK Elt.us (wd m e) d') arr
 have hs':arr'.size=arr.size:=by simp[arr',putCells]
 have harr: ∀i j,i<xs.length→j<wd m e→arr'.getD (i*(wd m e)+j) undef=(d'[i]!.us)[j]! :=by
  intro i j hi hj
  have hlt2:i*(wd m e)+j<xs.length*(wd m e):=Du hi hj
  have hlt3:i*(wd m e)+j<arr.size:=by rw[hsa];exact Nat.lt_of_lt_of_le hlt2 (Nat.mul_le_mul_right _ hxc)
  obtain⟨q1,q2⟩:=Bjq (i:=i) hj
  simp only[arr',putCells,Array.getD_eq_getD_getElem?,Array.getElem?_mapIdx,Array.getElem?_eq_getElem hlt3,Option.map_some,Option.getD_some,size_flatK,hd'n,Nat.zero_le,true_and,Nat.zero_add,if_pos hlt2,Nat.sub_zero,id]
  rw[get_flatK _ _ _ _ (by rw[hd'n];exact hlt2),q1,q2]
 have hcell: ∀ (R:V→Value→Prop),(∀i j,i<xs.length→j<wd m e→R ((xs.getD i .any).cells.getD j .any) (arr.getD (i*(wd m e)+j) undef))→
   ∀i j,i<xs.length→j<wd m e→R (((X3 m xs).getD i .any).cells.getD j .any) (arr'.getD (i*(wd m e)+j) undef):=by
  intro R hR i j hi hj
  obtain⟨i0,hi0,heq⟩:=hback i hi
  rw[hsi i hi,harr i j hi hj,heq,husj i0 j hi0 hj,(hdv i0 hi0).1]
  exact hR i0 j hi0 hj
 have hheap: (grow (putRowK Elt.us (wd m e) (Go.Sort.ahead w q0) bl 0 d') os).heap[bl]? =some (.cells arr' ty fr):=by
  show((w.heap.modify bl (onCells (putCells id 0 (flatK Elt.us (wd m e) d'))))++os)[bl]? =_
  rw[Array.getElem?_append_left (by simpa using hblk),Array.getElem?_modify,if_pos rfl,hh]
  rfl
 obtain⟨q1,q2,q3⟩:=hH.setRow (w':=grow (putRowK Elt.us (wd m e) (Go.Sort.ahead w q0) bl 0 d') os) (g':=gg) (b':=bl) (c':=c) (xs':=X3 m xs) (arr':=arr') (Ju hrow) hpl (Nat.le_refl _) (fun _=>rfl) ⟨rfl,rfl,rfl⟩
  (by show w.heap.size≤((w.heap.modify bl _)++os).size;simp)
  (fun b'' hlt hne=>by
   show((w.heap.modify bl (onCells (putCells id 0 (flatK Elt.us (wd m e) d'))))++os)[b'']? =_
   rw[Array.getElem?_append_left (by simpa using hlt),Array.getElem?_modify,if_neg (fun h=>hne h.symm)])
  (.inl rfl) hheap (by rw[hs',hsa]) (by rw[hs'];exact hfr) (by rw[hsl];exact hxc)
  (fun i hi=>by
   rw[hsl] at hi
   obtain⟨i0,hi0,heq⟩:=hback i hi
   rw[hsi i hi,heq,(hdv i0 hi0).1]
   exact he i0 hi0)
  (fun i j hi hj=>hcell (fun _ u=>u.oneCell'=true) h1 i j (by rw[hsl] at hi;exact hi) hj)
  (fun m' hm i j hi hj=>hcell (fun v u=>RV w (Bj pl H) pl m' v u) (by
   rcases hm with rfl| ⟨hm,hlt'⟩
   ·exact hr
   ·exact hbd m' hm hlt') i j (by rw[hsl] at hi;exact hi) hj)
 exact⟨.tuple #[],_,rfl,⟨q1, .tup [] #[] rfl (fun i hi=>by simp at hi),q2,q3,by rw[Br];omega⟩⟩
open Classical in
noncomputable def Bek (m:Bool) (e g:Nat):List V→Hp→Option (V×Hp)
 | [.slc r gg 0 n, .d (.fn (.func g') [])],H=>
  match Cw H r gg with
  |some (e',xs)=>if e'=wd m e∧n=xs.length∧g'=g∧n<4611686018427387904∧(∀x∈xs,(Zu m x).isSome=true)∧(∀a∈xs,∀b∈xs,Zu m a=Zu m b→a=b) then some (.tup [],Bz H r (.row gg e' (X3 m xs))) else none
  |none=>none
 |_,_=>none
theorem Bim {P:Program} {G:Gx} {m:Bool} {k g e:Nat} (hf:FnOk P k) (hS:Bqp P m k g e) (args:List V) (H:Hp) (r:V×Hp) (h:Bek m e g args H=some r):Nk P G k args H r:=by
 unfold Bek at h
 split at h
 ·rename_i b gg n g' H'
  split at h
  ·rename_i e' xs hrow
   split at h
   ·rename_i hc
    obtain⟨rfl,rfl,rfl,h4,h5,h6⟩:=hc
    simp only[Option.some.injEq] at h
    subst h
    exact Bo5 hf hS hrow h4 h5 h6
   ·simp at h
  ·simp at h
 ·simp at h
end Go.Ev
