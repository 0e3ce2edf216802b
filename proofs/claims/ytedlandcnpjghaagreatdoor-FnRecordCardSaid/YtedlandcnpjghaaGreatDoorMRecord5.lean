/- Lemmas (several texts in one). -/
import Derived.Test.YtedlandcnpjghaaGreatDoorMRecord4
import Derived.Lib.LaidTab
import Derived.Sort.Grow
import Derived.WalkSmall
import Derived.ChangeArms
import Derived.ChangeSlices
import Derived.OpenShut
import Derived.ChangeShapes
set_option linter.unusedSimpArgs false
set_option linter.unusedVariables false
namespace Go.Ev
open Go Go.Sort
def Bry (t:List (Nat×AFunc)) (glob:Gj) (prim:Nat→Option (List V→Hp→Option (V×Hp))):Prg:= { fns:=Brc t,glob:=glob,prim:=prim }
theorem Bob {P:Program} {t:List (Nat×AFunc)} {glob:Gj} {prim:Nat→Option (List V→Hp→Option (V×Hp))} (hm:P.follows .mixedOrders=true) (h: ∀p∈t,∃fn,P.funcs[p.1]? =some fn∧Bq P fn p.2=true)
  (hp: ∀k p,prim k=some p→∀args H r,p args H=some r→Ml P glob k args H r):PrgOk P (Bry t glob prim):=
 ⟨hm,fun _ _ hk=>h _ (Bg7 hk),hp⟩
def Pg (k:IntKind) (zs:List Int):List D:=zs.map (.int k)
theorem Bpr {P:Program} {G:Gj} {w:World} {O:Ja} (hG:GR G w O) {name:String} {g:Nat} {k:IntKind} {zs:List Int} (hn:P.globalNamed name=some g) (hg:G g=some (Pg k zs)):Lib.TabIs P w name k zs:=by
 obtain⟨h1,arr,ty,fr,hh,hs⟩:=hG g _ hg
 cases h1 with
 |rptr _ b o F hO hb hc h1c hr=>
  unfold Lib.TabIs World.var?
  rw[hn]
  simp only[Option.bind_some,hh,Option.some.injEq]
  have hl:arr.size=zs.length:=by simpa[Pg] using hs
  apply Array.ext
  ·simp[hl]
  ·intro i h1 h2
   have hi:i<zs.length:=by omega
   have hi':i< (Pg k zs).length:=by simpa[Pg] using hi
   have c:=hc i hi'
   have r:=hr i hi'
   have e: (Pg k zs).getD i .nilp= .int k (zs[i]):=by simp[Pg,List.getD_eq_getElem?_getD,hi]
   rw[e] at r
   simp only[World.cell?,hh] at c
   simp only[Nat.zero_add] at c
   rw[Array.getElem?_eq_getElem h1] at c
   simp only[Option.isSome_none,Bool.false_eq_true,if_false,Option.some.injEq] at c
   rw[c]
   generalize F i=q at r⊢
   cases r
   simp
theorem B0n {P:Program} {w:World} {name:String} {g:Nat} {k:IntKind} {zs:List Int} (hn:P.globalNamed name=some g) (h:Lib.TabIs P w name k zs):
  RD w (fun _=>False) (.rptr (Pg k zs)) (.pointer (some ⟨g,0,none⟩))∧∃arr ty fr,w.heap[g]? =some (.cells arr ty fr)∧arr.size=(Pg k zs).length:=by
 unfold Lib.TabIs World.var? at h
 rw[hn] at h
 simp only[Option.bind_some] at h
 split at h
 ·rename_i cs ty fr hh
  simp only[Option.some.injEq] at h
  subst h
  refine⟨.rptr _ g 0 (fun j=> .int k (zs.getD j 0)) (fun h=>h) (Array.getElem?_eq_some_iff.1 hh).1 (fun j hj=> ?_) (fun j hj=>rfl) (fun j hj=> ?_),_,_,_,hh,by simp[Pg]⟩
  ·have hj':j<zs.length:=by simpa[Pg] using hj
   simp[World.cell?,hh,List.getD_eq_getElem?_getD,hj']
  ·have hj':j<zs.length:=by simpa[Pg] using hj
   have e: (Pg k zs).getD j .nilp= .int k (zs.getD j 0):=by simp[Pg,List.getD_eq_getElem?_getD,hj']
   rw[e]
   exact .int _ _
 ·simp at h
theorem Bq6 {w:World} {O:Ja} (k:Nat) (os:Array Go.Obj):Ext w O (grow (w.drewN k) os) O:=
 ⟨rfl,rfl,rfl,by simp[grow,World.drewN],fun b hb hO=> ⟨by
  show(w.heap++os)[b]? =_
  rw[Array.getElem?_append_left hb],hO⟩⟩
theorem Bk1 {P:Program} {G:Gj} {k:Nat} {args:List V} {H:Hp} {x:D} (hf:FnOk P k)
  (hc: ∀ (w:World) (pl:Pl) (us:Array Value),GR G w (Bi pl H)→RVs w (Bi pl H) pl (Bc H) args us→Calls P k us w fun e w'=> ∃u,e= .returned u∧RD w' (Bi pl H) x u∧∃m os,w'=grow (w.drewN m) os):Ml P G k args H (.d x,H):=by
 refine⟨hf,fun w pl Bd us hH hG hR=> (hc w pl us hG hR).mono fun e w' he=> ?_⟩
 obtain⟨u,rfl,hx,m,os,rfl⟩:=he
 have E:Ext w (Bi pl H) (grow (w.drewN m) os) (Bi pl H):=Bq6 m os
 refine⟨u,pl,rfl,⟨?_, .d _ _ hx,E,PlExt.refl _ _,Nat.le_refl _⟩⟩
 exact(hH.mono_all (w':=grow (w.drewN m) os) ⟨rfl,rfl,rfl,by simp[grow,World.drewN],fun b hb _=> ⟨by
  show(w.heap++os)[b]? =_
  rw[Array.getElem?_append_left hb],fun h=>h⟩⟩).1
end Go.Ev
namespace Go.Ev
open Go Go.ChangeShapes Go.WideShapes
inductive Ty where
 |bool
 |int (k:IntKind)
 |str
 |slice (e:Ty)
 |fin
 |fld (f r:Ty)
def Ty.size:Ty→Nat
 | .fin=>0
 | .fld f r=>f.size+r.size
 |_=>1
def Ty.isAgg:Ty→Bool
 | .fin=>true
 | .fld _ _=>true
 |_=>false
section
variable {H:Type} {enc:TypeId×Value→H} {P:Program} {w:World} {base:Nat} {spare:Nat→Bool} {held:Bool}
end
end Go.Ev
namespace Go.Ev
open Go
def ap (H l:Hp):Hp:=(H:List Obj)++l
theorem ap0 (H:Hp) (o:Obj):Bt H o=ap H [o]:=rfl
theorem Byl (H:Hp):ap H []=H:=List.append_nil _
theorem Bum (H l:Hp) (o:Obj):Bt (ap H l) o=ap H ((l:List Obj)++[o]):=by simp[ap,Bt]
theorem Be5 (H l:Hp):Bc (ap H l)=Bc H+l.length:=by simp[ap,Bc]
theorem Xq: ∀ (H:Hp) (r:Nat),Ci H r=H[r]?
 | [],_=>rfl
 |o::H,0=>rfl
 |o::H,r+1=>by simp only[Ci,List.getElem?_cons_succ,Xq H r]
theorem Xr: ∀ (H:Hp) (r:Nat) (o:Obj),Bv H r o=H.set r o
 | [],_,_=>rfl
 |x::H,0,_=>rfl
 |x::H,r+1,o=>by simp only[Bv,List.set_cons_succ,Xr H r]
theorem R9 (H l:Hp) (k:Nat):Ci (ap H l) (Bc H+k)=Ci l k:=by
 rw[Xq,Xq,ap,List.getElem?_append_right (by simp[Bc])]
 simp[Bc]
theorem Be4 (H l:Hp):Ci (ap H l) (Bc H)=Ci l 0:=R9 H l 0
theorem Yn (H l:Hp) (k:Nat) (o:Obj):Bv (ap H l) (Bc H+k) o=ap H (Bv l k o):=by
 rw[Xr,Xr,ap,List.set_append_right _ _ (by simp[Bc])]
 simp[Bc,ap]
theorem Bmc (H l:Hp) (o:Obj):Bv (ap H l) (Bc H) o=ap H (Bv l 0 o):=Yn H l 0 o
theorem W9 (H l:Hp):Du (ap H l) (Bc H)=H:=by simp[ap,Du,Bc]
theorem Bgj (H l:Hp) (k:Nat):Du (ap H l) (Bc H+k)=ap H (l.take k):=by
 simp only[ap,Du,Bc,List.take_append]
 rw[List.take_of_length_le (by omega)]
 congr 2
 omega
theorem Bqm (H:Hp) (k:Nat): ¬Bc H+k<Bc H:=by omega
theorem Bul (H:Hp): ¬Bc H<Bc H:=by omega
theorem Byj (H:Hp) (k:Nat): (Bc H).ble (Bc H+k)=true:=by simp
theorem Buh (H:Hp): (Bc H).ble (Bc H)=true:=by simp
theorem Byk (H:Hp) (a b:Nat):Nat.blt (Bc H+a) (Bc H+b)=Nat.blt a b:=by
 rw[Bool.eq_iff_iff];simp
theorem Buk (H:Hp) (b:Nat):Nat.blt (Bc H) (Bc H+b)=Nat.blt 0 b:=by
 rw[Bool.eq_iff_iff];simp
theorem Bmb (H:Hp) (a:Nat):Nat.blt (Bc H+a) (Bc H)=false:=by
 cases h:Nat.blt (Bc H+a) (Bc H) with
 |false=>rfl
 |true=>simp at h;omega
theorem Bqk (H:Hp):Nat.blt (Bc H) (Bc H)=false:=by simpa using Bmb H 0
theorem Bui (H:Hp) (a b:Nat):Nat.ble (Bc H+a) (Bc H+b)=Nat.ble a b:=by
 rw[Bool.eq_iff_iff];simp
theorem Buj (H:Hp) (a:Nat):Nat.ble (Bc H+(a+1)) (Bc H)=false:=by
 cases h:Nat.ble (Bc H+(a+1)) (Bc H) with
 |false=>rfl
 |true=>have:=Nat.le_of_ble_eq_true h;omega
theorem Wz: ∀ (ds:List D),Gi (ds.map V.d)=some ds
 | []=>rfl
 |x::r=>by simp only[List.map_cons,Gi,Wz r]
theorem Bgi: ∀ (ds:List D) (vs:List V),Gi (ds.map V.d++vs)=(match Gi vs with|some es=>some (ds++es) |none=>none)
 | [],vs=>by
  rw[List.map_nil,List.nil_append]
  cases Gi vs<;>rfl
 |x::r,vs=>by
  simp only[List.map_cons,List.cons_append,Gi,Bgi r vs]
  cases Gi vs<;>rfl
theorem Su: ∀ {vs:List V} {ds:List D} {n d:Nat} {H:Hp},Gi vs=some ds→Gv (fz n d H) vs=some ds
 | [],ds,_,_,_,h=>by simp only[Gi,Option.some.injEq] at h;subst h;rfl
 | .d x::r,ds,n,d,H,h=>by
  simp only[Gi] at h
  split at h
  ·rename_i xs hx
   simp only[Option.some.injEq] at h;subst h
   have:fz n d H (.d x)=some x:=by cases d<;>rfl
   simp only[Gv,this,Su hx]
  ·simp at h
 | .agg _::_,_,_,_,_,h=>by simp[Gi] at h
 | .tup _::_,_,_,_,_,h=>by simp[Gi] at h
 | .slc _ _ _ _::_,_,_,_,_,h=>by simp[Gi] at h
 | .ptr _ _ _ _::_,_,_,_,_,h=>by simp[Gi] at h
 | .fn _ _::_,_,_,_,_,h=>by simp[Gi] at h
 | .mref _::_,_,_,_,_,h=>by simp[Gi] at h
 | .nils _::_,_,_,_,_,h=>by simp[Gi] at h
 | .und::_,_,_,_,_,h=>by simp[Gi] at h
 | .any::_,_,_,_,_,h=>by simp[Gi] at h
theorem Bqi: ∀ {vs:List V} {ds:List D},Gi vs=some ds→ds.length=vs.length:=fun h=>by
 have:=Kc h
 rw[this];simp
theorem Bql {H l:Hp} {k g e n:Nat} {xs:List V} {ds:List D} (h1:Ci l k=some (.row g e xs)) (h2:Gi xs=some ds) (h3:n=ds.length):Wx (Bc H) (ap H l) (.slc (Bc H+k) g 0 n)=some (.d (.vals e ds)):=by
 have hr:Ct (ap H l) (Bc H+k) g=some (e,xs):=by
  unfold Ct
  rw[R9,h1]
  simp
 have hl:=Bqi h2
 have hm:Gv (fz (Bc H) 7 (ap H l)) ((xs.drop 0).take n)=some ds:=by
  rw[List.drop_zero,List.take_of_length_le (by omega)]
  exact Su h2
 have:=Sm (n:=Bc H) (d:=7) (r:=Bc H+k) (g:=g) (i:=0) (k:=n) (by omega) hr (by omega) hm
 show(if Bc H+k<Bc H then _ else(match fz (Bc H) Qd _ (.slc (Bc H+k) g 0 n) with|some x=>some (V.d x) |none=>none))=_
 rw[if_neg (by omega),show Qd=7+1 from rfl,this]
theorem B08 (H l:Hp) (d k g i n:Nat):fz (Bc H) (d+1) (ap H l) (.slc (Bc H+k) g i n)=(match Ci l k with
  |some (.row g' e xs)=>bif Nat.beq g' g then(if i+n≤xs.length then(match Gv (fz (Bc H) d (ap H l)) ((xs.drop i).take n) with|some ys=>some (.vals e ys) |none=>none) else none) else none
  |_=>none):=by
 simp only[fz,Ct,R9,if_neg (Bqm H k)]
 cases Ci l k with
 |none=>rfl
 |some o=>
  cases o with
  |dead=>rfl
  |map _ _=>rfl
  |row g' e xs=>
   cases h:Nat.beq g' g with
   |false=>simp only[h,cond_false]
   |true=>
    simp only[h,cond_true]
    split
    ·cases Gv (fz (Bc H) d (ap H l)) ((xs.drop i).take n)<;>rfl
    ·rfl
theorem Bj8 (H l:Hp) (k g i n:Nat):Wx (Bc H) (ap H l) (.slc (Bc H+k) g i n)=(match Ci l k with
  |some (.row g' e xs)=>bif Nat.beq g' g then(if i+n≤xs.length then(match Gv (fz (Bc H) 7 (ap H l)) ((xs.drop i).take n) with|some ys=>some (.d (.vals e ys)) |none=>none) else none) else none
  |_=>none):=by
 have h:=B08 H l 7 k g i n
 show(if Bc H+k<Bc H then _ else(match fz (Bc H) (7+1) _ (.slc (Bc H+k) g i n) with|some x=>some (V.d x) |none=>none))=_
 rw[if_neg (by omega),h]
 cases Ci l k with
 |none=>rfl
 |some o=>
  cases o with
  |dead=>rfl
  |map _ _=>rfl
  |row g' e xs=>
   cases h:Nat.beq g' g with
   |false=>simp only[h,cond_false]
   |true=>
    simp only[h,cond_true]
    by_cases hi:i+n≤xs.length
    ·simp only[if_pos hi]
     cases Gv (fz (Bc H) 7 (ap H l)) ((xs.drop i).take n)<;>rfl
    ·simp only[if_neg hi]
theorem Bu9 (H l:Hp) (g i n:Nat):Wx (Bc H) (ap H l) (.slc (Bc H) g i n)=(match Ci l 0 with
  |some (.row g' e xs)=>bif Nat.beq g' g then(if i+n≤xs.length then(match Gv (fz (Bc H) 7 (ap H l)) ((xs.drop i).take n) with|some ys=>some (.d (.vals e ys)) |none=>none) else none) else none
  |_=>none):=Bj8 H l 0 g i n
theorem Bho (n d:Nat) (H:Hp) (f g:List V):Gv (fz n d H) (f++g)=(match Gv (fz n d H) f with|some a=> (match Gv (fz n d H) g with|some b=>some (a++b) |none=>none) |none=>none):=by
 induction f with
 |nil=>simp only[List.nil_append,Gv];cases Gv (fz n d H) g<;>rfl
 |cons x r ih=>
  simp only[List.cons_append,Gv,ih]
  cases fz n d H x<;>cases Gv (fz n d H) r<;>cases Gv (fz n d H) g<;>rfl
theorem B3v (n d:Nat) (H:Hp) (x:D):fz n d H (.d x)=some x:=by cases d<;>rfl
theorem Bz1 (cs:List V):V.cells (.agg cs)=cs:=rfl
theorem Bwd (cs:List D):V.cells (.d (.agg cs))=cs.map V.d:=rfl
theorem Bzt (cs:List V):V.isAgg (.agg cs)=true:=rfl
theorem Bv5 (cs:List D):V.isAgg (.d (.agg cs))=true:=rfl
theorem Byp (cs:List D):D.cells (.agg cs)=cs:=rfl
theorem Bz7 (s:List UInt8):V.cells (.d (.str s))=[.d (.str s)]:=rfl
theorem Bzz (s:List UInt8):V.isAgg (.d (.str s))=false:=rfl
theorem Bys (s:List UInt8):D.cells (.str s)=[.str s]:=rfl
theorem Bz4 (k:IntKind) (n:Int):V.cells (.d (.int k n))=[.d (.int k n)]:=rfl
theorem Bzw (k:IntKind) (n:Int):V.isAgg (.d (.int k n))=false:=rfl
theorem Byr (k:IntKind) (n:Int):D.cells (.int k n)=[.int k n]:=rfl
theorem Bwc (b:Bool):V.cells (.d (.bool b))=[.d (.bool b)]:=rfl
theorem Bv4 (b:Bool):V.isAgg (.d (.bool b))=false:=rfl
theorem Bus (b:Bool):D.cells (.bool b)=[.bool b]:=rfl
theorem Bwj (e:Nat) (xs:List D):V.cells (.d (.vals e xs))=[.d (.vals e xs)]:=rfl
theorem Bwb (e:Nat) (xs:List D):V.isAgg (.d (.vals e xs))=false:=rfl
theorem Bux (e:Nat) (xs:List D):D.cells (.vals e xs)=[.vals e xs]:=rfl
theorem Bwg:V.cells (.d (.nilp))=[.d (.nilp)]:=rfl
theorem Bv8:V.isAgg (.d (.nilp))=false:=rfl
theorem Buv:D.cells (.nilp)=[.nilp]:=rfl
theorem Bwi (cs:List D):V.cells (.d (.rptr cs))=[.d (.rptr cs)]:=rfl
theorem Bwa (cs:List D):V.isAgg (.d (.rptr cs))=false:=rfl
theorem Buw (cs:List D):D.cells (.rptr cs)=[.rptr cs]:=rfl
theorem Bz2 (f:Fn) (cs:List D):V.cells (.d (.fn f cs))=[.d (.fn f cs)]:=rfl
theorem Bzu (f:Fn) (cs:List D):V.isAgg (.d (.fn f cs))=false:=rfl
theorem Byq (f:Fn) (cs:List D):D.cells (.fn f cs)=[.fn f cs]:=rfl
theorem Bt2:V.cells (.d (.nilfn))=[.d (.nilfn)]:=rfl
theorem Bt0:V.isAgg (.d (.nilfn))=false:=rfl
theorem Bqu:D.cells (.nilfn)=[.nilfn]:=rfl
theorem Bt1 (t:Nat) (x:D):V.cells (.d (.iface t x))=[.d (.iface t x)]:=rfl
theorem Btz (t:Nat) (x:D):V.isAgg (.d (.iface t x))=false:=rfl
theorem Bqt (t:Nat) (x:D):D.cells (.iface t x)=[.iface t x]:=rfl
theorem Bpu:V.cells (.d (.niface))=[.d (.niface)]:=rfl
theorem Bpt:V.isAgg (.d (.niface))=false:=rfl
theorem Bnm:D.cells (.niface)=[.niface]:=rfl
theorem Bwf (ks vs:List D):V.cells (.d (.mval ks vs))=[.d (.mval ks vs)]:=rfl
theorem Bv7 (ks vs:List D):V.isAgg (.d (.mval ks vs))=false:=rfl
theorem Buu (ks vs:List D):D.cells (.mval ks vs)=[.mval ks vs]:=rfl
theorem Bz6 (r g i n:Nat):V.cells (.slc r g i n)=[.slc r g i n]:=rfl
theorem Bzy (r g i n:Nat):V.isAgg (.slc r g i n)=false:=rfl
theorem Bz5 (r g i j:Nat):V.cells (.ptr r g i j)=[.ptr r g i j]:=rfl
theorem Bzx (r g i j:Nat):V.isAgg (.ptr r g i j)=false:=rfl
theorem Bz3 (f:Fn) (cs:List V):V.cells (.fn f cs)=[.fn f cs]:=rfl
theorem Bzv (f:Fn) (cs:List V):V.isAgg (.fn f cs)=false:=rfl
theorem Bwe (r:Nat):V.cells (.mref r)=[.mref r]:=rfl
theorem Bv6 (r:Nat):V.isAgg (.mref r)=false:=rfl
theorem Bwh (e:Nat):V.cells (.nils e)=[.nils e]:=rfl
theorem Bv9 (e:Nat):V.isAgg (.nils e)=false:=rfl
theorem Bz8:V.cells (.und)=[.und]:=rfl
theorem Bz0:V.isAgg (.und)=false:=rfl
theorem Bqj (H l m:Hp):ap (ap H l) m=ap H ((l:List Obj)++m):=by simp[ap]
def ACode.hd:ACode→ACode| .seq a _ _=>a|c=>c
def ACode.lv:ACode→List Nat| .seq _ l _=>l|_=> []
def ACode.tl:ACode→ACode| .seq _ _ b=>b|c=>c
section
variable {F:St→Option (Out×St)} {lv:List Nat}
theorem Pw {st st':St} (h:F ⟨st.env.keep lv,st.hp⟩=some (.normal,st')):Bg F lv st=Bg F lv st':=by
 rw[Bw,h]
theorem F7 {st st':St} {o:Out} (h:F ⟨st.env.keep lv,st.hp⟩=some (o,st')) (ho:o≠ .normal):Bg F lv st=some (o,st'):=by
 rw[Bw,h]
 cases o with
 |normal=>exact absurd rfl ho
 |exit id=>rfl
 |ret=>rfl
def Bsv {σ ρ:Type} (f:Nat→σ→σ ⊕ ρ):Nat→Nat→σ→σ ⊕ ρ
 |0,_,s=> .inl s
 |n+1,i,s=>
  match f i s with
  | .inl s'=>Bsv f n (i+1) s'
  | .inr r=> .inr r
def Gives (Q:Out→Env→Hp→Prop) (r:Option (Out×St)):Prop:=
 match r with
 |some (o,⟨e,X⟩)=>Q o e X
 |none=>False
theorem Bkd (Q:Out→Env→Hp→Prop) (o:Out) (e:Env) (X:Hp):Gives Q (some (o,⟨e,X⟩))=Q o e X:=rfl
theorem Gives.out {Q:Out→Env→Hp→Prop} {r:Option (Out×St)} (h:Gives Q r): ∃o e X,r=some (o,⟨e,X⟩)∧Q o e X:=by
 match r,h with
 |some (o,⟨e,X⟩),h=>exact⟨o,e,X,rfl,h⟩
def Bba (Rep:Env→Hp→Prop) (Done:Out→Env→Hp→Prop):Out→Env→Hp→Prop
 | .normal,e,X=>Rep e X
 | .exit id,e,X=>Done (.exit id) e X
 | .ret,e,X=>Done .ret e X
theorem Bi3 (R:Env→Hp→Prop) (D:Out→Env→Hp→Prop) (e:Env) (X:Hp):Bba R D .normal e X=R e X:=rfl
theorem Bpq (R:Env→Hp→Prop) (D:Out→Env→Hp→Prop) (e:Env) (X:Hp) (id:Nat):Bba R D (.exit id) e X=D (.exit id) e X:=rfl
theorem Btm (R:Env→Hp→Prop) (D:Out→Env→Hp→Prop) (e:Env) (X:Hp):Bba R D .ret e X=D .ret e X:=rfl
def Bue {σ ρ:Type} (Done:σ→Out→Env→Hp→Prop) (Quit:ρ→Out→Env→Hp→Prop) (x:σ ⊕ ρ):Out→Env→Hp→Prop:=match x with
 | .inl s=>Done s
 | .inr q=>Quit q
def Bl9 {σ ρ:Type} (Rep:σ→Env→Hp→Prop) (Quit:ρ→Out→Env→Hp→Prop) (x:σ ⊕ ρ):Out→Env→Hp→Prop:=match x with
 | .inl s=>fun o e X=>o= .normal∧Rep s e X
 | .inr q=>fun o e X=>o≠ .normal∧Quit q o e X
theorem Bhm {σ ρ:Type} (f:Nat→σ→σ ⊕ ρ) (N:Nat) (Rep:Nat→σ→Env→Hp→Prop) (Done:σ→Out→Env→Hp→Prop) (Quit:ρ→Out→Env→Hp→Prop)
  (hend: ∀s e X,Rep N s e X→Gives (fun o e X=>o≠ .normal∧Done s o e X) (F ⟨e.keep lv,X⟩))
  (hstep: ∀i s e X,i<N→Rep i s e X→Gives (Bl9 (Rep (i+1)) Quit (f i s)) (F ⟨e.keep lv,X⟩)):
  ∀ (n i:Nat) (s:σ) (e:Env) (X:Hp),i+n=N→Rep i s e X→Gives (Bue Done Quit (Bsv f n i s)) (Bg F lv ⟨e,X⟩)
 |0,i,s,e,X,hn,hr=>by
  obtain rfl:i=N:=by omega
  obtain⟨o,e',X',h1,h2,h3⟩:=(hend s e X hr).out
  rw[F7 h1 h2]
  exact h3
 |n+1,i,s,e,X,hn,hr=>by
  obtain⟨o,e',X',h1,h⟩:=(hstep i s e X (by omega) hr).out
  simp only[Bsv]
  cases hf:f i s with
  |inl s'=>
   rw[hf] at h
   obtain⟨rfl,h2⟩:=h
   simp only
   rw[Pw h1]
   exact Bhm f N Rep Done Quit hend hstep n (i+1) s' e' X' (by omega) h2
  |inr q=>
   rw[hf] at h
   obtain⟨h2,h3⟩:=h
   rw[F7 h1 h2]
   exact h3
theorem Xy {σ:Type} (f:Nat→σ→σ) (N:Nat) (Rep:Nat→σ→Env→Hp→Prop) (Done:σ→Out→Env→Hp→Prop)
  (hend: ∀s e X,Rep N s e X→Gives (fun o e X=>o≠ .normal∧Done s o e X) (F ⟨e.keep lv,X⟩))
  (hstep: ∀i s e X,i<N→Rep i s e X→Gives (fun o e X=>o= .normal∧Rep (i+1) (f i s) e X) (F ⟨e.keep lv,X⟩)):
  ∀ (n i:Nat) (s:σ) (e:Env) (X:Hp),i+n=N→Rep i s e X→Gives (Done ((List.range' i n).foldl (fun s i=>f i s) s)) (Bg F lv ⟨e,X⟩)
 |0,i,s,e,X,hn,hr=>by
  obtain rfl:i=N:=by omega
  obtain⟨o,e',X',h1,h2,h3⟩:=(hend s e X hr).out
  rw[F7 h1 h2]
  exact h3
 |n+1,i,s,e,X,hn,hr=>by
  obtain⟨o,e',X',h1,rfl,h2⟩:=(hstep i s e X (by omega) hr).out
  rw[Pw h1,List.range'_succ,List.foldl_cons]
  exact Xy f N Rep Done hend hstep n (i+1) (f i s) e' X' (by omega) h2
theorem Dw (N:Nat) (Rep:Nat→Env→Hp→Prop) (Done:Out→Env→Hp→Prop)
  (hend: ∀e X,Rep N e X→Gives (fun o e X=>o≠ .normal∧Done o e X) (F ⟨e.keep lv,X⟩))
  (hstep: ∀i e X,i<N→Rep i e X→Gives (Bba (Rep (i+1)) Done) (F ⟨e.keep lv,X⟩)):
  ∀ (n i:Nat) (e:Env) (X:Hp),i+n=N→Rep i e X→Gives Done (Bg F lv ⟨e,X⟩)
 |0,i,e,X,hn,hr=>by
  obtain rfl:i=N:=by omega
  obtain⟨o,e',X',h1,h2,h3⟩:=(hend e X hr).out
  rw[F7 h1 h2]
  exact h3
 |n+1,i,e,X,hn,hr=>by
  obtain⟨o,e',X',h1,h2⟩:=(hstep i e X (by omega) hr).out
  cases o with
  |normal=>
   rw[Pw h1]
   exact Dw N Rep Done hend hstep n (i+1) e' X' (by omega) h2
  |exit id=>rw[F7 h1 (by simp)];exact h2
  |ret=>rw[F7 h1 (by simp)];exact h2
theorem Bb6 (I:Nat→Env→Hp→Prop) (Done:Out→Env→Hp→Prop)
  (hs: ∀n e X,I n e X→Gives (Bba (fun e X=> ∃m,m<n∧I m e X) Done) (F ⟨e.keep lv,X⟩)):
  ∀ (n:Nat) (e:Env) (X:Hp),I n e X→Gives Done (Bg F lv ⟨e,X⟩):=by
 intro n
 induction n using Nat.strongRecOn with
 |ind n ih=>
  intro e X h
  obtain⟨o,e',X',h1,h2⟩:=(hs n e X h).out
  cases o with
  |normal=>
   obtain⟨m,hm,h3⟩:=h2
   rw[Pw h1]
   exact ih m hm e' X' h3
  |exit id=>rw[F7 h1 (by simp)];exact h2
  |ret=>rw[F7 h1 (by simp)];exact h2
end
end Go.Ev
