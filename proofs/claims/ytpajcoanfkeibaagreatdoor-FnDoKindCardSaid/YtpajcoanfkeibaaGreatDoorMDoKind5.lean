/- Lemmas (several texts in one). -/
import Derived.Test.YtpajcoanfkeibaaGreatDoorMDoKind1
import Derived.Test.YtpajcoanfkeibaaGreatDoorMDoKind4
import Derived.Lib.LaidTab
import Derived.Sort.Grow
import Derived.WalkSmall
import Derived.ChangeArms
import Derived.ChangeSlices
import Derived.OpenShut
import Derived.ChangeShapes
import Derived.Shelf.GgSortFunc.RowK
import Derived.Sort.EncStr
set_option linter.unusedSimpArgs false
set_option linter.unusedVariables false
set_option maxRecDepth 100000
open Option renaming some.injEq → Cdt, getD_some → Cdu
open List renaming getD_eq_getElem?_getD → Cda, take_of_length_le → Cdg, map_cons → Cdd, mem_cons → Cdj, getElem?_eq_getElem → Cdh
open Nat renaming zero_add → Cd9, lt_of_lt_of_le → Cea, mul_le_mul_right → Cd8
open Array renaming getElem?_eq_getElem → Cd5
open Bool renaming and_eq_false_iff → Cd0, not_eq_true' → Cdy
open Prod renaming mk.injEq → Cd2
namespace Go.Ev
open Go Go.Sort
def Bs2 (t:List (Nat×AFunc)) (glob:Gi) (prim:Nat→Option (List V→Hp→Option (V×Hp))):Prg:= { fns:=Bsn t,glob:=glob,prim:=prim }
theorem Bpe {P:Program} {t:List (Nat×AFunc)} {glob:Gi} {prim:Nat→Option (List V→Hp→Option (V×Hp))} (hm:P.follows .mixedOrders=true) (h: ∀p∈t,∃fn,P.funcs[p.1]? =some fn∧Bi P fn p.2=true)
  (hp: ∀k p,prim k=some p→∀args H r,p args H=some r→Kw P glob k args H r):PrgOk P (Bs2 t glob prim):=
 ⟨hm,fun _ _ hk=>h _ (Bhu hk),hp⟩
def Ph (k:IntKind) (zs:List Int):List D:=zs.map (.int k)
theorem Bqr {P:Program} {G:Gi} {w:World} {O:Gz} (hG:GR G w O) {name:String} {g:Nat} {k:IntKind} {zs:List Int} (hn:P.globalNamed name=some g) (hg:G g=some (Ph k zs)):Lib.TabIs P w name k zs:=by
 obtain⟨h1,arr,ty,fr,hh,hs⟩:=hG g _ hg
 cases h1 with
 |rptr _ b o F hO hb hc h1c hr=>
  unfold Lib.TabIs World.var?
  rw[hn]
  simp only[Option.bind_some,hh,Cdt]
  have hl:arr.size=zs.length:=by simpa[Ph] using hs
  apply Array.ext
  ·simp[hl]
  ·intro i h1 h2
   have hi:i<zs.length:=by omega
   have hi':i< (Ph k zs).length:=by simpa[Ph] using hi
   have c:=hc i hi'
   have r:=hr i hi'
   have e: (Ph k zs).getD i .nilp= .int k (zs[i]):=by simp[Ph,Cda,hi]
   rw[e] at r
   simp only[World.cell?,hh] at c
   simp only[Cd9] at c
   rw[Cd5 h1] at c
   simp only[Option.isSome_none,Bool.false_eq_true,if_false,Cdt] at c
   rw[c]
   generalize F i=q at r⊢
   cases r
   simp
theorem B2l {P:Program} {w:World} {name:String} {g:Nat} {k:IntKind} {zs:List Int} (hn:P.globalNamed name=some g) (h:Lib.TabIs P w name k zs):
  RD w (fun _=>False) (.rptr (Ph k zs)) (.pointer (some ⟨g,0,none⟩))∧∃arr ty fr,w.heap[g]? =some (.cells arr ty fr)∧arr.size=(Ph k zs).length:=by
 unfold Lib.TabIs World.var? at h
 rw[hn] at h
 simp only[Option.bind_some] at h
 split at h
 ·rename_i cs ty fr hh
  simp only[Cdt] at h
  subst h
  refine⟨.rptr _ g 0 (fun j=> .int k (zs.getD j 0)) (fun h=>h) (Array.getElem?_eq_some_iff.1 hh).1 (fun j hj=> ?_) (fun j hj=>rfl) (fun j hj=> ?_),_,_,_,hh,by simp[Ph]⟩
  ·have hj':j<zs.length:=by simpa[Ph] using hj
   simp[World.cell?,hh,Cda,hj']
  ·have hj':j<zs.length:=by simpa[Ph] using hj
   have e: (Ph k zs).getD j .nilp= .int k (zs.getD j 0):=by simp[Ph,Cda,hj']
   rw[e]
   exact .int _ _
 ·simp at h
theorem Bsf {w:World} {O:Gz} (k:Nat) (os:Array Go.Obj):Ext w O (grow (w.drewN k) os) O:=
 ⟨rfl,rfl,rfl,by simp[grow,World.drewN],fun b hb hO=> ⟨by
  show(w.heap++os)[b]? =_
  rw[Array.getElem?_append_left hb],hO⟩⟩
theorem Blt {P:Program} {G:Gi} {k:Nat} {args:List V} {H:Hp} {x:D} (hf:FnOk P k)
  (hc: ∀ (w:World) (pl:Pl) (us:Array Value),GR G w (Bl pl H)→RVs w (Bl pl H) pl (Bc H) args us→Calls P k us w fun e w'=> ∃u,e= .returned u∧RD w' (Bl pl H) x u∧∃m os,w'=grow (w.drewN m) os):Kw P G k args H (.d x,H):=by
 refine⟨hf,fun w pl Bd us hH hG hR=> (hc w pl us hG hR).mono fun e w' he=> ?_⟩
 obtain⟨u,rfl,hx,m,os,rfl⟩:=he
 have E:Ext w (Bl pl H) (grow (w.drewN m) os) (Bl pl H):=Bsf m os
 refine⟨u,pl,rfl,⟨?_, .d _ _ hx,E,PlExt.refl _ _,Nat.le_refl _⟩⟩
 exact(hH.mono_all (w':=grow (w.drewN m) os) ⟨rfl,rfl,rfl,by simp[grow,World.drewN],fun b hb _=> ⟨by
  show(w.heap++os)[b]? =_
  rw[Array.getElem?_append_left hb],fun h=>h⟩⟩).1
end Go.Ev
namespace Go.Ev
open Go Go.ChangeShapes Go.WideShapes
inductive Ty where
 |bool
 |int (k:IntKind)
 |str
 |slice (e:Ty)
 |fin
 |fld (f r:Ty)
def Ty.size:Ty→Nat
 | .fin=>0
 | .fld f r=>f.size+r.size
 |_=>1
def Ty.isAgg:Ty→Bool
 | .fin=>true
 | .fld _ _=>true
 |_=>false
section
variable {H:Type} {enc:TypeId×Value→H} {P:Program} {w:World} {base:Nat} {spare:Nat→Bool} {held:Bool}
end
end Go.Ev
namespace Go.Ev
open Go
def ap (H l:Hp):Hp:=(H:List Obj)++l
theorem ap0 (H:Hp) (o:Obj):Bp H o=ap H [o]:=rfl
theorem Brn (H:Hp):ap H []=H:=List.append_nil _
theorem Bff (H l:Hp) (o:Obj):Bp (ap H l) o=ap H ((l:List Obj)++[o]):=by simp[ap,Bp]
theorem Yk (H l:Hp):Bc (ap H l)=Bc H+l.length:=by simp[ap,Bc]
theorem Rn: ∀ (H:Hp) (r:Nat),Cc H r=H[r]?
 | [],_=>rfl
 |o::H,0=>rfl
 |o::H,r+1=>by simp only[Cc,List.getElem?_cons_succ,Rn H r]
theorem Xo: ∀ (H:Hp) (r:Nat) (o:Obj),Bw H r o=H.set r o
 | [],_,_=>rfl
 |x::H,0,_=>rfl
 |x::H,r+1,o=>by simp only[Bw,List.set_cons_succ,Xo H r]
theorem Qa (H l:Hp) (k:Nat):Cc (ap H l) (Bc H+k)=Cc l k:=by
 rw[Rn,Rn,ap,List.getElem?_append_right (by simp[Bc])]
 simp[Bc]
theorem Bfe (H l:Hp):Cc (ap H l) (Bc H)=Cc l 0:=Qa H l 0
theorem Q7 (H l:Hp) (k:Nat) (o:Obj):Bw (ap H l) (Bc H+k) o=ap H (Bw l k o):=by
 rw[Xo,Xo,ap,List.set_append_right _ _ (by simp[Bc])]
 simp[Bc,ap]
theorem Bm5 (H l:Hp) (o:Obj):Bw (ap H l) (Bc H) o=ap H (Bw l 0 o):=Q7 H l 0 o
theorem Ll (H l:Hp):Cx (ap H l) (Bc H)=H:=by simp[ap,Cx,Bc]
theorem Wz (H l:Hp) (k:Nat):Cx (ap H l) (Bc H+k)=ap H (l.take k):=by
 simp only[ap,Cx,Bc,List.take_append]
 rw[Cdg (by omega)]
 congr 2
 omega
theorem Bj7 (H:Hp) (k:Nat): ¬Bc H+k<Bc H:=by omega
theorem Bm4 (H:Hp): ¬Bc H<Bc H:=by omega
theorem Brk (H:Hp) (k:Nat): (Bc H).ble (Bc H+k)=true:=by simp
theorem Bm0 (H:Hp): (Bc H).ble (Bc H)=true:=by simp
theorem Brl (H:Hp) (a b:Nat):Nat.blt (Bc H+a) (Bc H+b)=Nat.blt a b:=by
 rw[Bool.eq_iff_iff];simp
theorem Bm3 (H:Hp) (b:Nat):Nat.blt (Bc H) (Bc H+b)=Nat.blt 0 b:=by
 rw[Bool.eq_iff_iff];simp
theorem Bfd (H:Hp) (a:Nat):Nat.blt (Bc H+a) (Bc H)=false:=by
 cases h:Nat.blt (Bc H+a) (Bc H) with
 |false=>rfl
 |true=>simp at h;omega
theorem Bg4 (H:Hp):Nat.blt (Bc H) (Bc H)=false:=by simpa using Bfd H 0
theorem Bm1 (H:Hp) (a b:Nat):Nat.ble (Bc H+a) (Bc H+b)=Nat.ble a b:=by
 rw[Bool.eq_iff_iff];simp
theorem Bm2 (H:Hp) (a:Nat):Nat.ble (Bc H+(a+1)) (Bc H)=false:=by
 cases h:Nat.ble (Bc H+(a+1)) (Bc H) with
 |false=>rfl
 |true=>have:=Nat.le_of_ble_eq_true h;omega
theorem Wy: ∀ (ds:List D),Gr (ds.map V.d)=some ds
 | []=>rfl
 |x::r=>by simp only[Cdd,Gr,Wy r]
theorem Ba1: ∀ (ds:List D) (vs:List V),Gr (ds.map V.d++vs)=(match Gr vs with|some es=>some (ds++es) |none=>none)
 | [],vs=>by
  rw[List.map_nil,List.nil_append]
  cases Gr vs<;>rfl
 |x::r,vs=>by
  simp only[Cdd,List.cons_append,Gr,Ba1 r vs]
  cases Gr vs<;>rfl
theorem Ta: ∀ {vs:List V} {ds:List D} {n d:Nat} {H:Hp},Gr vs=some ds→Gp (fz n d H) vs=some ds
 | [],ds,_,_,_,h=>by simp only[Gr,Cdt] at h;subst h;rfl
 | .d x::r,ds,n,d,H,h=>by
  simp only[Gr] at h
  split at h
  ·rename_i xs hx
   simp only[Cdt] at h;subst h
   have:fz n d H (.d x)=some x:=by cases d<;>rfl
   simp only[Gp,this,Ta hx]
  ·simp at h
 | .agg _::_,_,_,_,_,h=>by simp[Gr] at h
 | .tup _::_,_,_,_,_,h=>by simp[Gr] at h
 | .slc _ _ _ _::_,_,_,_,_,h=>by simp[Gr] at h
 | .ptr _ _ _ _::_,_,_,_,_,h=>by simp[Gr] at h
 | .fn _ _::_,_,_,_,_,h=>by simp[Gr] at h
 | .mref _::_,_,_,_,_,h=>by simp[Gr] at h
 | .nils _::_,_,_,_,_,h=>by simp[Gr] at h
 | .und::_,_,_,_,_,h=>by simp[Gr] at h
 | .any::_,_,_,_,_,h=>by simp[Gr] at h
theorem Brj: ∀ {vs:List V} {ds:List D},Gr vs=some ds→ds.length=vs.length:=fun h=>by
 have:=Kc h
 rw[this];simp
theorem Brm {H l:Hp} {k g e n:Nat} {xs:List V} {ds:List D} (h1:Cc l k=some (.row g e xs)) (h2:Gr xs=some ds) (h3:n=ds.length):Yz (Bc H) (ap H l) (.slc (Bc H+k) g 0 n)=some (.d (.vals e ds)):=by
 have hr:C8 (ap H l) (Bc H+k) g=some (e,xs):=by
  unfold C8
  rw[Qa,h1]
  simp
 have hl:=Brj h2
 have hm:Gp (fz (Bc H) 7 (ap H l)) ((xs.drop 0).take n)=some ds:=by
  rw[List.drop_zero,Cdg (by omega)]
  exact Ta h2
 have:=Bbr (n:=Bc H) (d:=7) (r:=Bc H+k) (g:=g) (i:=0) (k:=n) (by omega) hr (by omega) hm
 show(if Bc H+k<Bc H then _ else(match fz (Bc H) Pb _ (.slc (Bc H+k) g 0 n) with|some x=>some (V.d x) |none=>none))=_
 rw[if_neg (by omega),show Pb=7+1 from rfl,this]
theorem B3j (H l:Hp) (d k g i n:Nat):fz (Bc H) (d+1) (ap H l) (.slc (Bc H+k) g i n)=(match Cc l k with
  |some (.row g' e xs)=>bif Nat.beq g' g then(if i+n≤xs.length then(match Gp (fz (Bc H) d (ap H l)) ((xs.drop i).take n) with|some ys=>some (.vals e ys) |none=>none) else none) else none
  |_=>none):=by
 simp only[fz,C8,Qa,if_neg (Bj7 H k)]
 cases Cc l k with
 |none=>rfl
 |some o=>
  cases o with
  |dead=>rfl
  |map _ _=>rfl
  |row g' e xs=>
   cases h:Nat.beq g' g with
   |false=>simp only[h,cond_false]
   |true=>
    simp only[h,cond_true]
    split
    ·cases Gp (fz (Bc H) d (ap H l)) ((xs.drop i).take n)<;>rfl
    ·rfl
theorem Bfu (H l:Hp) (k g i n:Nat):Yz (Bc H) (ap H l) (.slc (Bc H+k) g i n)=(match Cc l k with
  |some (.row g' e xs)=>bif Nat.beq g' g then(if i+n≤xs.length then(match Gp (fz (Bc H) 7 (ap H l)) ((xs.drop i).take n) with|some ys=>some (.d (.vals e ys)) |none=>none) else none) else none
  |_=>none):=by
 have h:=B3j H l 7 k g i n
 show(if Bc H+k<Bc H then _ else(match fz (Bc H) (7+1) _ (.slc (Bc H+k) g i n) with|some x=>some (V.d x) |none=>none))=_
 rw[if_neg (by omega),h]
 cases Cc l k with
 |none=>rfl
 |some o=>
  cases o with
  |dead=>rfl
  |map _ _=>rfl
  |row g' e xs=>
   cases h:Nat.beq g' g with
   |false=>simp only[h,cond_false]
   |true=>
    simp only[h,cond_true]
    by_cases hi:i+n≤xs.length
    ·simp only[if_pos hi]
     cases Gp (fz (Bc H) 7 (ap H l)) ((xs.drop i).take n)<;>rfl
    ·simp only[if_neg hi]
theorem Bxg (H l:Hp) (g i n:Nat):Yz (Bc H) (ap H l) (.slc (Bc H) g i n)=(match Cc l 0 with
  |some (.row g' e xs)=>bif Nat.beq g' g then(if i+n≤xs.length then(match Gp (fz (Bc H) 7 (ap H l)) ((xs.drop i).take n) with|some ys=>some (.d (.vals e ys)) |none=>none) else none) else none
  |_=>none):=Bfu H l 0 g i n
theorem Bh4 (n d:Nat) (H:Hp) (f g:List V):Gp (fz n d H) (f++g)=(match Gp (fz n d H) f with|some a=> (match Gp (fz n d H) g with|some b=>some (a++b) |none=>none) |none=>none):=by
 induction f with
 |nil=>simp only[List.nil_append,Gp];cases Gp (fz n d H) g<;>rfl
 |cons x r ih=>
  simp only[List.cons_append,Gp,ih]
  cases fz n d H x<;>cases Gp (fz n d H) r<;>cases Gp (fz n d H) g<;>rfl
theorem B8j (n d:Nat) (H:Hp) (x:D):fz n d H (.d x)=some x:=by cases d<;>rfl
theorem B13 (cs:List V):V.cells (.agg cs)=cs:=rfl
theorem Byz (cs:List D):V.cells (.d (.agg cs))=cs.map V.d:=rfl
theorem B1t (cs:List V):V.isAgg (.agg cs)=true:=rfl
theorem Byr (cs:List D):V.isAgg (.d (.agg cs))=true:=rfl
theorem B0t (cs:List D):D.cells (.agg cs)=cs:=rfl
theorem B19 (s:List UInt8):V.cells (.d (.str s))=[.d (.str s)]:=rfl
theorem B1z (s:List UInt8):V.isAgg (.d (.str s))=false:=rfl
theorem B0w (s:List UInt8):D.cells (.str s)=[.str s]:=rfl
theorem B16 (k:IntKind) (n:Int):V.cells (.d (.int k n))=[.d (.int k n)]:=rfl
theorem B1w (k:IntKind) (n:Int):V.isAgg (.d (.int k n))=false:=rfl
theorem B0v (k:IntKind) (n:Int):D.cells (.int k n)=[.int k n]:=rfl
theorem Byy (b:Bool):V.cells (.d (.bool b))=[.d (.bool b)]:=rfl
theorem Byq (b:Bool):V.isAgg (.d (.bool b))=false:=rfl
theorem Bwq (b:Bool):D.cells (.bool b)=[.bool b]:=rfl
theorem By5 (e:Nat) (xs:List D):V.cells (.d (.vals e xs))=[.d (.vals e xs)]:=rfl
theorem Byx (e:Nat) (xs:List D):V.isAgg (.d (.vals e xs))=false:=rfl
theorem Bwu (e:Nat) (xs:List D):D.cells (.vals e xs)=[.vals e xs]:=rfl
theorem By2:V.cells (.d (.nilp))=[.d (.nilp)]:=rfl
theorem Byu:V.isAgg (.d (.nilp))=false:=rfl
theorem Bws:D.cells (.nilp)=[.nilp]:=rfl
theorem By4 (cs:List D):V.cells (.d (.rptr cs))=[.d (.rptr cs)]:=rfl
theorem Byw (cs:List D):V.isAgg (.d (.rptr cs))=false:=rfl
theorem Bwt (cs:List D):D.cells (.rptr cs)=[.rptr cs]:=rfl
theorem B14 (f:Fn) (cs:List D):V.cells (.d (.fn f cs))=[.d (.fn f cs)]:=rfl
theorem B1u (f:Fn) (cs:List D):V.isAgg (.d (.fn f cs))=false:=rfl
theorem B0u (f:Fn) (cs:List D):D.cells (.fn f cs)=[.fn f cs]:=rfl
theorem Bux:V.cells (.d (.nilfn))=[.d (.nilfn)]:=rfl
theorem Buv:V.isAgg (.d (.nilfn))=false:=rfl
theorem Br0:D.cells (.nilfn)=[.nilfn]:=rfl
theorem Buw (t:Nat) (x:D):V.cells (.d (.iface t x))=[.d (.iface t x)]:=rfl
theorem Buu (t:Nat) (x:D):V.isAgg (.d (.iface t x))=false:=rfl
theorem Brz (t:Nat) (x:D):D.cells (.iface t x)=[.iface t x]:=rfl
theorem Bqu:V.cells (.d (.niface))=[.d (.niface)]:=rfl
theorem Bqt:V.isAgg (.d (.niface))=false:=rfl
theorem Boq:D.cells (.niface)=[.niface]:=rfl
theorem By1 (ks vs:List D):V.cells (.d (.mval ks vs))=[.d (.mval ks vs)]:=rfl
theorem Byt (ks vs:List D):V.isAgg (.d (.mval ks vs))=false:=rfl
theorem Bwr (ks vs:List D):D.cells (.mval ks vs)=[.mval ks vs]:=rfl
theorem B18 (r g i n:Nat):V.cells (.slc r g i n)=[.slc r g i n]:=rfl
theorem B1y (r g i n:Nat):V.isAgg (.slc r g i n)=false:=rfl
theorem B17 (r g i j:Nat):V.cells (.ptr r g i j)=[.ptr r g i j]:=rfl
theorem B1x (r g i j:Nat):V.isAgg (.ptr r g i j)=false:=rfl
theorem B15 (f:Fn) (cs:List V):V.cells (.fn f cs)=[.fn f cs]:=rfl
theorem B1v (f:Fn) (cs:List V):V.isAgg (.fn f cs)=false:=rfl
theorem By0 (r:Nat):V.cells (.mref r)=[.mref r]:=rfl
theorem Bys (r:Nat):V.isAgg (.mref r)=false:=rfl
theorem By3 (e:Nat):V.cells (.nils e)=[.nils e]:=rfl
theorem Byv (e:Nat):V.isAgg (.nils e)=false:=rfl
theorem B2a:V.cells (.und)=[.und]:=rfl
theorem B12:V.isAgg (.und)=false:=rfl
theorem Bmz (H l m:Hp):ap (ap H l) m=ap H ((l:List Obj)++m):=by simp[ap]
def ACode.hd:ACode→ACode| .seq a _ _=>a|c=>c
def ACode.lv:ACode→List Nat| .seq _ l _=>l|_=> []
def ACode.tl:ACode→ACode| .seq _ _ b=>b|c=>c
section
variable {F:St→Option (Out×St)} {lv:List Nat}
theorem Pw {st st':St} (h:F ⟨st.env.keep lv,st.hp⟩=some (.normal,st')):Bg F lv st=Bg F lv st':=by
 rw[Bv,h]
theorem Gb {st st':St} {o:Out} (h:F ⟨st.env.keep lv,st.hp⟩=some (o,st')) (ho:o≠ .normal):Bg F lv st=some (o,st'):=by
 rw[Bv,h]
 cases o with
 |normal=>exact absurd rfl ho
 |exit id=>rfl
 |ret=>rfl
def Bty {σ ρ:Type} (f:Nat→σ→σ ⊕ ρ):Nat→Nat→σ→σ ⊕ ρ
 |0,_,s=> .inl s
 |n+1,i,s=>
  match f i s with
  | .inl s'=>Bty f n (i+1) s'
  | .inr r=> .inr r
def Gives (Q:Out→Env→Hp→Prop) (r:Option (Out×St)):Prop:=
 match r with
 |some (o,⟨e,X⟩)=>Q o e X
 |none=>False
theorem Wd (Q:Out→Env→Hp→Prop) (o:Out) (e:Env) (X:Hp):Gives Q (some (o,⟨e,X⟩))=Q o e X:=rfl
theorem Gives.out {Q:Out→Env→Hp→Prop} {r:Option (Out×St)} (h:Gives Q r): ∃o e X,r=some (o,⟨e,X⟩)∧Q o e X:=by
 match r,h with
 |some (o,⟨e,X⟩),h=>exact⟨o,e,X,rfl,h⟩
def Yh (Rep:Env→Hp→Prop) (Done:Out→Env→Hp→Prop):Out→Env→Hp→Prop
 | .normal,e,X=>Rep e X
 | .exit id,e,X=>Done (.exit id) e X
 | .ret,e,X=>Done .ret e X
theorem Bjf (R:Env→Hp→Prop) (D:Out→Env→Hp→Prop) (e:Env) (X:Hp):Yh R D .normal e X=R e X:=rfl
theorem Bqq (R:Env→Hp→Prop) (D:Out→Env→Hp→Prop) (e:Env) (X:Hp) (id:Nat):Yh R D (.exit id) e X=D (.exit id) e X:=rfl
theorem Bug (R:Env→Hp→Prop) (D:Out→Env→Hp→Prop) (e:Env) (X:Hp):Yh R D .ret e X=D .ret e X:=rfl
def Bwi {σ ρ:Type} (Done:σ→Out→Env→Hp→Prop) (Quit:ρ→Out→Env→Hp→Prop) (x:σ ⊕ ρ):Out→Env→Hp→Prop:=match x with
 | .inl s=>Done s
 | .inr q=>Quit q
def Bmw {σ ρ:Type} (Rep:σ→Env→Hp→Prop) (Quit:ρ→Out→Env→Hp→Prop) (x:σ ⊕ ρ):Out→Env→Hp→Prop:=match x with
 | .inl s=>fun o e X=>o= .normal∧Rep s e X
 | .inr q=>fun o e X=>o≠ .normal∧Quit q o e X
theorem Bb2 {σ ρ:Type} (f:Nat→σ→σ ⊕ ρ) (N:Nat) (Rep:Nat→σ→Env→Hp→Prop) (Done:σ→Out→Env→Hp→Prop) (Quit:ρ→Out→Env→Hp→Prop)
  (hend: ∀s e X,Rep N s e X→Gives (fun o e X=>o≠ .normal∧Done s o e X) (F ⟨e.keep lv,X⟩))
  (hstep: ∀i s e X,i<N→Rep i s e X→Gives (Bmw (Rep (i+1)) Quit (f i s)) (F ⟨e.keep lv,X⟩)):
  ∀ (n i:Nat) (s:σ) (e:Env) (X:Hp),i+n=N→Rep i s e X→Gives (Bwi Done Quit (Bty f n i s)) (Bg F lv ⟨e,X⟩)
 |0,i,s,e,X,hn,hr=>by
  obtain rfl:i=N:=by omega
  obtain⟨o,e',X',h1,h2,h3⟩:=(hend s e X hr).out
  rw[Gb h1 h2]
  exact h3
 |n+1,i,s,e,X,hn,hr=>by
  obtain⟨o,e',X',h1,h⟩:=(hstep i s e X (by omega) hr).out
  simp only[Bty]
  cases hf:f i s with
  |inl s'=>
   rw[hf] at h
   obtain⟨rfl,h2⟩:=h
   simp only
   rw[Pw h1]
   exact Bb2 f N Rep Done Quit hend hstep n (i+1) s' e' X' (by omega) h2
  |inr q=>
   rw[hf] at h
   obtain⟨h2,h3⟩:=h
   rw[Gb h1 h2]
   exact h3
theorem Xu {σ:Type} (f:Nat→σ→σ) (N:Nat) (Rep:Nat→σ→Env→Hp→Prop) (Done:σ→Out→Env→Hp→Prop)
  (hend: ∀s e X,Rep N s e X→Gives (fun o e X=>o≠ .normal∧Done s o e X) (F ⟨e.keep lv,X⟩))
  (hstep: ∀i s e X,i<N→Rep i s e X→Gives (fun o e X=>o= .normal∧Rep (i+1) (f i s) e X) (F ⟨e.keep lv,X⟩)):
  ∀ (n i:Nat) (s:σ) (e:Env) (X:Hp),i+n=N→Rep i s e X→Gives (Done ((List.range' i n).foldl (fun s i=>f i s) s)) (Bg F lv ⟨e,X⟩)
 |0,i,s,e,X,hn,hr=>by
  obtain rfl:i=N:=by omega
  obtain⟨o,e',X',h1,h2,h3⟩:=(hend s e X hr).out
  rw[Gb h1 h2]
  exact h3
 |n+1,i,s,e,X,hn,hr=>by
  obtain⟨o,e',X',h1,rfl,h2⟩:=(hstep i s e X (by omega) hr).out
  rw[Pw h1,List.range'_succ,List.foldl_cons]
  exact Xu f N Rep Done hend hstep n (i+1) (f i s) e' X' (by omega) h2
theorem C9 (N:Nat) (Rep:Nat→Env→Hp→Prop) (Done:Out→Env→Hp→Prop)
  (hend: ∀e X,Rep N e X→Gives (fun o e X=>o≠ .normal∧Done o e X) (F ⟨e.keep lv,X⟩))
  (hstep: ∀i e X,i<N→Rep i e X→Gives (Yh (Rep (i+1)) Done) (F ⟨e.keep lv,X⟩)):
  ∀ (n i:Nat) (e:Env) (X:Hp),i+n=N→Rep i e X→Gives Done (Bg F lv ⟨e,X⟩)
 |0,i,e,X,hn,hr=>by
  obtain rfl:i=N:=by omega
  obtain⟨o,e',X',h1,h2,h3⟩:=(hend e X hr).out
  rw[Gb h1 h2]
  exact h3
 |n+1,i,e,X,hn,hr=>by
  obtain⟨o,e',X',h1,h2⟩:=(hstep i e X (by omega) hr).out
  cases o with
  |normal=>
   rw[Pw h1]
   exact C9 N Rep Done hend hstep n (i+1) e' X' (by omega) h2
  |exit id=>rw[Gb h1 (by simp)];exact h2
  |ret=>rw[Gb h1 (by simp)];exact h2
theorem Bb3 (I:Nat→Env→Hp→Prop) (Done:Out→Env→Hp→Prop)
  (hs: ∀n e X,I n e X→Gives (Yh (fun e X=> ∃m,m<n∧I m e X) Done) (F ⟨e.keep lv,X⟩)):
  ∀ (n:Nat) (e:Env) (X:Hp),I n e X→Gives Done (Bg F lv ⟨e,X⟩):=by
 intro n
 induction n using Nat.strongRecOn with
 |ind n ih=>
  intro e X h
  obtain⟨o,e',X',h1,h2⟩:=(hs n e X h).out
  cases o with
  |normal=>
   obtain⟨m,hm,h3⟩:=h2
   rw[Pw h1]
   exact ih m hm e' X' h3
  |exit id=>rw[Gb h1 (by simp)];exact h2
  |ret=>rw[Gb h1 (by simp)];exact h2
end
end Go.Ev
namespace Go.Ev
open Go Go.Sort
def skV (m:Bool) (v:V):Option (Int×List UInt8):=match m,v.cells with
 |false, .d (.str s)::_=>some (0,s)
 |true, .d (.str s):: .d (.int .i64 n)::_=>some (n,s)
 |_,_=>none
def wd (m:Bool) (e:Nat):Nat:=e+1+m.toNat
theorem Bmo (m:Bool) (e:Nat):0<wd m e:=by unfold wd;omega
theorem Bv7 (e:Nat):1<wd true e:=by unfold wd;simp
structure Elt (m:Bool) (e:Nat) where
 v:V
 us:List Value
 len:us.length=wd m e
 one: ∀u∈us,u.oneCell'=true
 n:Int
 t:ByteArray
 hd:us.getD 0 undef= .string t
 hn:m=true→us.getD 1 undef= .int .i64 n
 hv:skV m v=some (n,t.data.toList)
instance (m:Bool) (e:Nat):Inhabited (Elt m e):=
 ⟨⟨match m with|false=> .d (.agg [.str []]) |true=> .d (.agg [.str [], .int .i64 0]), .string ByteArray.empty:: (match m with|false=> [] |true=> [.int .i64 0])++List.replicate e (.bool false),by cases m<;>simp[wd]<;>omega,by
  intro u hu
  cases m
  ·rcases Cdj.1 hu with h|h
   ·rw[h];rfl
   ·rw[List.eq_of_mem_replicate h];rfl
  ·rcases Cdj.1 hu with h|h
   ·rw[h];rfl
   ·rcases Cdj.1 h with h|h
    ·rw[h];rfl
    ·rw[List.eq_of_mem_replicate h];rfl,0,ByteArray.empty,by cases m<;>rfl,by cases m<;>simp,by cases m<;>rfl⟩⟩
def Elt.key {m:Bool} {e:Nat} (x:Elt m e):Int×List UInt8:=(x.n,x.t.data.toList)
def B0o (x y:List UInt8):Int:=if Op.bytesLess x y=true then -1 else if Op.bytesLess y x=true then 1 else 0
def Ba9 (x y:Int×List UInt8):Int:=if x.1<y.1 then -1 else if y.1<x.1 then 1 else B0o x.2 y.2
def ltK (x y:Int×List UInt8):Bool:=decide (x.1<y.1) || (decide (x.1=y.1) &&Op.bytesLess x.2 y.2)
def Elt.cf {m:Bool} {e:Nat} (x y:Elt m e):Int:=Ba9 x.key y.key
theorem Brt: ∀ (x y:List UInt8),Op.bytesLess x y=decide (x<y):=by
 intro x y
 induction x generalizing y with
 |nil=>cases y<;>simp[Op.bytesLess]
 |cons a x ih=>
  cases y with
  |nil=>simp[Op.bytesLess]
  |cons b y=>
   simp only[Op.bytesLess,ih,List.cons_lt_cons_iff]
   by_cases h1:a<b
   ·simp[h1]
   ·by_cases h2:a=b<;>simp[h1,h2]
theorem Brv {x y z:List UInt8} (h1:Op.bytesLess x y=true) (h2:Op.bytesLess y z=true):Op.bytesLess x z=true:=by
 rw[Brt,decide_eq_true_eq] at*
 exact List.lt_trans h1 h2
theorem Bom (x:List UInt8):Op.bytesLess x x=false:=by
 rw[Brt,decide_eq_false_iff_not]
 exact List.lt_irrefl x
theorem Bru {x y:List UInt8} (h1:Op.bytesLess x y=false) (h2:Op.bytesLess y x=false):x=y:=by
 rw[Brt,decide_eq_false_iff_not] at*
 exact List.le_antisymm (List.not_lt.1 h2) (List.not_lt.1 h1)
theorem Bwn (x y:List UInt8):decide (B0o x y<0)=Op.bytesLess x y:=by
 unfold B0o
 cases h:Op.bytesLess x y<;>cases h2:Op.bytesLess y x<;>simp[h,h2]
theorem Ban (x y:Int×List UInt8):decide (Ba9 x y<0)=ltK x y:=by
 unfold Ba9 ltK
 by_cases h1:x.1<y.1
 ·simp[h1]
 ·by_cases h2:y.1<x.1
  ·simp[h1,h2,show ¬x.1=y.1 by omega]
  ·rw[if_neg h1,if_neg h2,Bwn]
   simp[h1,show x.1=y.1 by omega]
theorem Bb4 (x:Int×List UInt8):ltK x x=false:=by simp[ltK,Bom]
theorem Y2 {x y z:Int×List UInt8} (h1:ltK x y=true) (h2:ltK y z=true):ltK x z=true:=by
 simp only[ltK,Bool.or_eq_true,Bool.and_eq_true,decide_eq_true_eq] at*
 rcases h1 with h1| ⟨h1,h1'⟩<;>rcases h2 with h2| ⟨h2,h2'⟩
 ·left;omega
 ·left;omega
 ·left;omega
 ·right;exact⟨by omega,Brv h1' h2'⟩
theorem Bej {x y:Int×List UInt8} (h1:ltK x y=false) (h2:ltK y x=false):x=y:=by
 simp only[ltK,Bool.or_eq_false_iff,Cd0,decide_eq_false_iff_not] at h1 h2
 have e:x.1=y.1:=by omega
 refine Prod.ext e (Bru ?_ ?_)
 ·rcases h1.2 with h|h
  ·exact absurd e h
  ·exact h
 ·rcases h2.2 with h|h
  ·exact absurd e.symm h
  ·exact h
theorem Bb5 {x y z:Int×List UInt8} (h1:ltK x y=false) (h2:ltK y z=false):ltK x z=false:=by
 cases h:ltK x z with
 |false=>rfl
 |true=>
  cases h3:ltK z y with
  |true=>rw[Y2 h h3] at h1;simp at h1
  |false=>rw[Bej h2 h3] at h1;rw[h1] at h;simp at h
theorem Elt.swo (m:Bool) (e:Nat):SWO (fun x y:Elt m e=>decide (Elt.cf x y<0)) where
 irrefl x:=by
  show decide (Ba9 x.key x.key<0)=false
  rw[Ban,Bb4]
 trans x y z h1 h2:=by
  have h1':decide (Ba9 x.key y.key<0)=true:=h1
  have h2':decide (Ba9 y.key z.key<0)=true:=h2
  show decide (Ba9 x.key z.key<0)=true
  rw[Ban] at*
  exact Y2 h1' h2'
 ntrans x y z h1 h2:=by
  have h1':decide (Ba9 x.key y.key<0)=false:=h1
  have h2':decide (Ba9 y.key z.key<0)=false:=h2
  show decide (Ba9 x.key z.key<0)=false
  rw[Ban] at*
  exact Bb5 h1' h2'
def leV (m:Bool) (a b:V):Bool:= !ltK ((skV m b).getD (0,[])) ((skV m a).getD (0,[]))
def Bc6 (m:Bool) (xs:List V):List V:=xs.mergeSort (leV m)
theorem Bpa (m:Bool) (a b c:V) (h1:leV m a b=true) (h2:leV m b c=true):leV m a c=true:=by
 simp only[leV,Cdy] at*
 exact Bb5 h2 h1
theorem Bo9 (m:Bool) (a b:V): (leV m a b||leV m b a)=true:=by
 simp only[leV]
 cases h:ltK ((skV m b).getD (0,[])) ((skV m a).getD (0,[])) with
 |false=>rfl
 |true=>
  cases h2:ltK ((skV m a).getD (0,[])) ((skV m b).getD (0,[])) with
  |false=>rfl
  |true=>have:=Y2 h h2;rw[Bb4] at this;simp at this
theorem Bgu {m:Bool} {xs ys:List V} (hp:ys.Perm xs) (hs:ys.Pairwise fun a b=>leV m a b=true) (hk: ∀x∈xs,(skV m x).isSome=true) (hnd: ∀a∈xs,∀b∈xs,skV m a=skV m b→a=b):ys=Bc6 m xs:=by
 refine List.Perm.eq_of_pairwise (le:=fun a b=>leV m a b=true) ?_ hs (List.pairwise_mergeSort (Bpa m) (Bo9 m) xs) (hp.trans (List.mergeSort_perm xs (leV m)).symm)
 intro a b ha hb h1 h2
 have ha':=hp.mem_iff.1 ha
 have hb':b∈xs:=(List.mergeSort_perm xs (leV m)).mem_iff.1 hb
 simp only[leV,Cdy] at h1 h2
 have hkk:=Bej h1 h2
 obtain⟨s,hs⟩:=Option.isSome_iff_exists.1 (hk a ha')
 obtain⟨t,ht⟩:=Option.isSome_iff_exists.1 (hk b hb')
 rw[hs,ht] at hkk
 simp only[Cdu] at hkk
 exact hnd a ha' b hb' (by rw[hs,ht,hkk])
def Bzm (P:Program) (m:Bool) (k:Nat) (az:Array Value) (e:Nat):Prop:=∀ (Gq cap:Nat) (d:Array (Elt m e)) (w:World),HoldsK Elt.us (wd m e) w Gq 0 d→Gq<w.heap.size→d.size<4611686018427387904→
 Calls P k (#[.slice (some ⟨Gq,0,none⟩) d.size cap]++az) w fun ex w'=>ex= .returned (.tuple #[])∧∃ (d':Array (Elt m e)) (q:Nat) (os:Array Go.Obj),
  PermIn 0 d.size d d'∧SortedIn (fun x y=>decide (Elt.cf x y<0)) 0 d.size d'∧w'=grow (putRowK Elt.us (wd m e) (Go.Sort.ahead w q) Gq 0 d') os
def Bzl (P:Program) (m:Bool) (k g e:Nat):Prop:=Bzm P m k #[.func (.func g) #[] #[]] e
theorem Bkk {m:Bool} {i j e:Nat} (hj:j<wd m e): (i*(wd m e)+j) / (wd m e)=i∧(i*(wd m e)+j) % (wd m e)=j:=by
 constructor
 ·rw[Nat.mul_comm,Nat.mul_add_div (by omega),Nat.div_eq_of_lt hj,Nat.add_zero]
 ·rw[Nat.mul_comm,Nat.mul_add_mod,Nat.mod_eq_of_lt hj]
theorem Bpv {P:Program} {G:Gi} {m:Bool} {k e:Nat} {az:Array Value} {ex:List V} (hf:FnOk P k) (hS:Bzm P m k az e) {r gg:Nat} {xs:List V} {H:Hp} (hrow:C8 H r gg=some (wd m e,xs)) (hbig:xs.length<4611686018427387904)
  (hk: ∀x∈xs,(skV m x).isSome=true) (hnd: ∀a∈xs,∀b∈xs,skV m a=skV m b→a=b)
  (hex: ∀ (w:World) (pl:Pl) (us:Array Value),RVs w (Bl pl H) pl (Bc H) (.slc r gg 0 xs.length::ex) us→∃u0,us= #[u0]++az∧RV w (Bl pl H) pl (Bc H) (.slc r gg 0 xs.length) u0):
  Kw P G k (.slc r gg 0 xs.length::ex) H (.tup [],Bw H r (.row gg (wd m e) (Bc6 m xs))):=by
 refine⟨hf,fun w pl Bd us hH hG hR=> ?_⟩
 obtain⟨bl,c,arr,ty,fr,hpl,hh,hsa,hfr,hxc,he,hr,h1,hbd⟩:=Jb hH hrow
 obtain⟨u0,rfl,a0⟩:=hex w pl us hR
 have hel: ∀i,i<xs.length→∃x:Elt m e,x.v=xs.getD i .any∧x.us=(List.range (wd m e)).map fun j=>arr.getD (i*(wd m e)+j) undef:=by
  intro i hi
  have hmem:xs.getD i .any∈xs:=by
   rw[Cda,Cdh hi]
   exact List.getElem_mem hi
  obtain⟨⟨q,s⟩,hs⟩:=Option.isSome_iff_exists.1 (hk _ hmem)
  have hc0: (xs.getD i .any).cells.getD 0 .any= .d (.str s)∧(m=true→(xs.getD i .any).cells.getD 1 .any= .d (.int .i64 q)):=by
   have hs2:=hs
   unfold skV at hs2
   split at hs2
   ·rename_i heq
    simp only[Cdt,Cd2] at hs2
    obtain⟨rfl,rfl⟩:=hs2
    rw[heq];exact⟨rfl,fun h=>by simp at h⟩
   ·rename_i heq
    simp only[Cdt,Cd2] at hs2
    obtain⟨rfl,rfl⟩:=hs2
    rw[heq];exact⟨rfl,fun _=>rfl⟩
   ·simp at hs2
  have hrc:=hr i 0 hi (Bmo m e)
  rw[hc0.1,Nat.add_zero] at hrc
  have hex: ∃t:ByteArray,arr.getD (i*(wd m e)) undef= .string t∧t.data.toList=s:=by
   generalize arr.getD (i*(wd m e)) undef=u at hrc
   cases hrc with
   |d _ _ h=>cases h with|str _ t ht=>exact⟨t,rfl,ht⟩
  have hex2:m=true→arr.getD (i*(wd m e)+1) undef= .int .i64 q:=by
   intro hm
   have hrc:=hr i 1 hi (by rw[hm];exact Bv7 e)
   rw[hc0.2 hm] at hrc
   generalize arr.getD (i*(wd m e)+1) undef=u at hrc
   cases hrc with
   |d _ _ h=>cases h with|int _ _=>rfl
  obtain⟨t,ht,hts⟩:=hex
  have hz: ∀j,j<wd m e→((List.range (wd m e)).map fun j=>arr.getD (i*(wd m e)+j) undef).getD j undef=arr.getD (i*(wd m e)+j) undef:=fun j hj=>by
   simp[Cda,hj]
  refine⟨⟨xs.getD i .any,(List.range (wd m e)).map fun j=>arr.getD (i*(wd m e)+j) undef,by simp, ?_,q,t, ?_, ?_, ?_⟩,rfl,rfl⟩
  ·intro u hu
   obtain⟨j,hj,rfl⟩:=List.mem_map.1 hu
   exact h1 i j hi (by simpa using hj)
  ·rw[hz 0 (Bmo m e)]
   exact ht
  ·intro hm
   rw[hz 1 (by rw[hm];exact Bv7 e)]
   exact hex2 hm
  ·rw[hs,hts]
 let d:Array (Elt m e):=Array.ofFn (n:=xs.length) fun i=>Classical.choose (hel i.1 i.2)
 have hdn:d.size=xs.length:=by simp[d]
 have hdv: ∀i,i<xs.length→d[i]!.v=xs.getD i .any∧d[i]!.us=(List.range (wd m e)).map fun j=>arr.getD (i*(wd m e)+j) undef:=by
  intro i hi
  rw[getElem!_pos d i (by omega)]
  simp only[d,Array.getElem_ofFn]
  exact Classical.choose_spec (hel i hi)
 have husj: ∀i j,i<xs.length→j<wd m e→(d[i]!.us)[j]! =arr.getD (i*(wd m e)+j) undef:=by
  intro i j hi hj
  rw[(hdv i hi).2,getElem!_pos _ j (by simpa using hj)]
  simp
 have hH1:HoldsK Elt.us (wd m e) w bl 0 d:=by
  intro j hj
  rw[size_flatK,hdn] at hj
  have hq:j / (wd m e)<xs.length:=Nat.div_lt_of_lt_mul (by rw[Nat.mul_comm];exact hj)
  have hm:j % (wd m e)<wd m e:=Nat.mod_lt _ (Bmo m e)
  have hja:j<arr.size:=by rw[hsa];exact Cea hj (Cd8 _ hxc)
  rw[get_flatK _ _ _ _ (by rw[hdn];exact hj),husj _ _ hq hm,Nat.mul_comm,Nat.div_add_mod,Cd9]
  refine⟨F4 hh hja, ?_⟩
  have:=hfr j hja
  simp only[World.frozen?,hh]
  simp only[Cd0,decide_eq_false_iff_not]
  omega
 have hblk:bl<w.heap.size:=by
  rcases Nat.lt_or_ge bl w.heap.size with h|h
  ·exact h
  ·rw[Array.getElem?_eq_none h] at hh;simp at hh
 have hu0: ∃cap,u0= .slice (some ⟨bl,0,none⟩) xs.length cap:=by
  generalize xs.length=n at a0
  cases a0 with
  |slc _ _ _ _ b' e' c' hlt hp' hk'=>
   rw[hpl] at hp'
   simp only[Cdt,Cd2] at hp'
   obtain⟨rfl,rfl,rfl⟩:=hp'
   rw[Nat.zero_mul]
   exact⟨_,rfl⟩
  |slc0 _ _ _ _ _ hi=>exact absurd hi (Nat.lt_irrefl 0)
 obtain⟨cap,rfl⟩:=hu0
 have hcall:=hS bl cap d w hH1 hblk (by rw[hdn];exact hbig)
 rw[hdn] at hcall
 refine hcall.mono fun ex w' hex=> ?_
 obtain⟨rfl,d',q0,os,hperm,hsort,rfl⟩:=hex
 obtain⟨hsz,-,hpm⟩:=hperm
 have hd'n:d'.size=xs.length:=hsz.trans hdn
 have e1:d'.extract 0 xs.length=d':=by rw[←hd'n];exact Array.extract_size
 have e2:d.extract 0 xs.length=d:=by rw[←hdn];exact Array.extract_size
 rw[e1,e2] at hpm
 have hdx:d.toList.map (·.v)=xs:=by
  apply List.ext_getElem
  ·simp[hdn]
  ·intro i hi1 hi2
   have:=(hdv i hi2).1
   rw[getElem!_pos d i (by omega),Cda,Cdh hi2] at this
   simpa using this
 have hyp: (d'.toList.map (·.v)).Perm xs:=by
  have:=hpm.map (·.v)
  rwa[hdx] at this
 have hys: (d'.toList.map (·.v)).Pairwise fun a b=>leV m a b=true:=by
  rw[List.pairwise_iff_getElem]
  intro i j hi hj hij
  have hi':i<d'.size:=by simpa using hi
  have hj':j<d'.size:=by simpa using hj
  have h:=hsort i j (Nat.zero_le _) hij (by omega)
  rw[getElem!_pos d' i hi',getElem!_pos d' j hj'] at h
  have h2:decide (Ba9 d'[j].key d'[i].key<0)=false:=h
  rw[Ban] at h2
  simp only[List.getElem_map,Array.getElem_toList,leV,d'[j].hv,d'[i].hv,Cdu,Cdy]
  exact h2
 have hyx:=Bgu hyp hys hk hnd
 have hsl: (Bc6 m xs).length=xs.length:=(List.mergeSort_perm xs (leV m)).length_eq
 have hsi: ∀i,i<xs.length→(Bc6 m xs).getD i .any=d'[i]!.v:=by
  intro i hi
  rw[←hyx,getElem!_pos d' i (by omega),Cda,List.getElem?_map,Array.getElem?_toList,Cd5 (by omega)]
  rfl
 have hback: ∀i,i<xs.length→∃i0,i0<xs.length∧d'[i]! =d[i0]! :=by
  intro i hi
  have hm:d'[i]! ∈d.toList:=by
   rw[←hpm.mem_iff,getElem!_pos d' i (by omega)]
   exact Array.getElem_mem_toList _
  obtain⟨i0,h0,heq⟩:=List.getElem_of_mem hm
  have h0':i0<d.size:=by simpa using h0
  refine⟨i0,by omega, ?_⟩
  rw[getElem!_pos d i0 h0',←heq]
  simp
 let arr':Array Value:=putCells id 0 (flatK Elt.us (wd m e) d') arr
 have hs':arr'.size=arr.size:=by simp[arr',putCells]
 have harr: ∀i j,i<xs.length→j<wd m e→arr'.getD (i*(wd m e)+j) undef=(d'[i]!.us)[j]! :=by
  intro i j hi hj
  have hlt2:i*(wd m e)+j<xs.length*(wd m e):=Du hi hj
  have hlt3:i*(wd m e)+j<arr.size:=by rw[hsa];exact Cea hlt2 (Cd8 _ hxc)
  obtain⟨q1,q2⟩:=Bkk (i:=i) hj
  simp only[arr',putCells,Array.getD_eq_getD_getElem?,Array.getElem?_mapIdx,Cd5 hlt3,Option.map_some,Cdu,size_flatK,hd'n,Nat.zero_le,true_and,Cd9,if_pos hlt2,Nat.sub_zero,id]
  rw[get_flatK _ _ _ _ (by rw[hd'n];exact hlt2),q1,q2]
 have hcell: ∀ (R:V→Value→Prop),(∀i j,i<xs.length→j<wd m e→R ((xs.getD i .any).cells.getD j .any) (arr.getD (i*(wd m e)+j) undef))→
   ∀i j,i<xs.length→j<wd m e→R (((Bc6 m xs).getD i .any).cells.getD j .any) (arr'.getD (i*(wd m e)+j) undef):=by
  intro R hR i j hi hj
  obtain⟨i0,hi0,heq⟩:=hback i hi
  rw[hsi i hi,harr i j hi hj,heq,husj i0 j hi0 hj,(hdv i0 hi0).1]
  exact hR i0 j hi0 hj
 have hheap: (grow (putRowK Elt.us (wd m e) (Go.Sort.ahead w q0) bl 0 d') os).heap[bl]? =some (.cells arr' ty fr):=by
  show((w.heap.modify bl (onCells (putCells id 0 (flatK Elt.us (wd m e) d'))))++os)[bl]? =_
  rw[Array.getElem?_append_left (by simpa using hblk),Array.getElem?_modify,if_pos rfl,hh]
  rfl
 obtain⟨q1,q2,q3⟩:=hH.setRow (w':=grow (putRowK Elt.us (wd m e) (Go.Sort.ahead w q0) bl 0 d') os) (g':=gg) (b':=bl) (c':=c) (xs':=Bc6 m xs) (arr':=arr') (Jp hrow) hpl (Nat.le_refl _) (fun _=>rfl) ⟨rfl,rfl,rfl⟩
  (by show w.heap.size≤((w.heap.modify bl _)++os).size;simp)
  (fun b'' hlt hne=>by
   show((w.heap.modify bl (onCells (putCells id 0 (flatK Elt.us (wd m e) d'))))++os)[b'']? =_
   rw[Array.getElem?_append_left (by simpa using hlt),Array.getElem?_modify,if_neg (fun h=>hne h.symm)])
  (.inl rfl) hheap (by rw[hs',hsa]) (by rw[hs'];exact hfr) (by rw[hsl];exact hxc)
  (fun i hi=>by
   rw[hsl] at hi
   obtain⟨i0,hi0,heq⟩:=hback i hi
   rw[hsi i hi,heq,(hdv i0 hi0).1]
   exact he i0 hi0)
  (fun i j hi hj=>hcell (fun _ u=>u.oneCell'=true) h1 i j (by rw[hsl] at hi;exact hi) hj)
  (fun m' hm i j hi hj=>hcell (fun v u=>RV w (Bl pl H) pl m' v u) (by
   rcases hm with rfl| ⟨hm,hlt'⟩
   ·exact hr
   ·exact hbd m' hm hlt') i j (by rw[hsl] at hi;exact hi) hj)
 exact⟨.tuple #[],_,rfl,⟨q1, .tup [] #[] rfl (fun i hi=>by simp at hi),q2,q3,by rw[Bt];omega⟩⟩
theorem B3i {w:World} {O:Gz} {pl:Pl} {m:Nat} {v:V} {g:Nat} {us:Array Value} (hR:RVs w O pl m [v, .d (.fn (.func g) [])] us): ∃u0,us= #[u0]++ #[Value.func (.func g) #[] #[]]∧RV w O pl m v u0:=by
 obtain⟨hus,hR⟩:=hR
 have a0:=hR 0 (by simp)
 have a1:=hR 1 (by simp)
 simp only[List.getD_cons_zero,List.getD_cons_succ] at a0 a1
 have hus2:us= #[us.getD 0 undef,us.getD 1 undef]:=by
  have h2:us.size=2:=by simpa using hus
  apply Array.ext
  ·simpa using h2
  ·intro i hi1 hi2
   have:i=0∨i=1:=by omega
   rcases this with rfl|rfl<;>simp[Array.getD,h2]
 generalize us.getD 0 undef=u0 at a0 hus2
 generalize us.getD 1 undef=u1 at a1 hus2
 subst hus2
 have hu1:u1= .func (.func g) #[] #[]:=by
  cases a1 with
  |d _ _ hfn=>cases hfn with
   |fn _ _ us' hl' _=>
    have hus':us'= #[]:=by simpa using hl'
    rw[hus']
 subst hu1
 exact⟨u0,rfl,a0⟩
def B1n (m:Bool) (e e' n:Nat) (xs:List V):Prop:=e'=wd m e∧n=xs.length∧n<4611686018427387904∧(∀x∈xs,(skV m x).isSome=true)∧∀a∈xs,∀b∈xs,skV m a=skV m b→a=b
open Classical in
noncomputable def Bob (m:Bool) (e g:Nat):List V→Hp→Option (V×Hp)
 | [.slc r gg 0 n, .d (.fn (.func g') [])],H=>
  match C8 H r gg with
  |some (e',xs)=>if B1n m e e' n xs∧g'=g then some (.tup [],Bw H r (.row gg e' (Bc6 m xs))) else none
  |none=>none
 |_,_=>none
theorem Bje {P:Program} {G:Gi} {m:Bool} {k g e:Nat} (hf:FnOk P k) (hS:Bzl P m k g e) (args:List V) (H:Hp) (r:V×Hp) (h:Bob m e g args H=some r):Kw P G k args H r:=by
 unfold Bob at h
 split at h
 ·rename_i b gg n g' H'
  split at h
  ·rename_i e' xs hrow
   split at h
   ·rename_i hc
    obtain⟨⟨rfl,rfl,h4,h5,h6⟩,rfl⟩:=hc
    simp only[Cdt] at h
    subst h
    exact Bpv hf hS hrow h4 h5 h6 fun w pl us hR=>B3i hR
   ·simp at h
  ·simp at h
 ·simp at h
end Go.Ev
namespace Go.Ev
open Go
abbrev Zp (α:Type):=Nat→α×Nat
def zk (m:Nat):Zp Nat:=fun n=> (n % m,n / m)
def zv {α β:Type} (k:α→Nat→β) (a:α) (n:Nat):β:=k a n
def zt {α β:Type} (p:α×Nat) (k:α→Nat→β):β:=zv k p.1 p.2
def z0 {α:Type} (x:α):Zp α:=fun n=> (x,n)
def z1 {α β:Type} (f:α→β) (p:Zp α):Zp β:=fun n=>zt (p n) fun a n=> (f a,n)
def z2 {α β γ:Type} (f:α→β→γ) (p:Zp α) (q:Zp β):Zp γ:=fun n=>zt (p n) fun a n=>zt (q n) fun b n=> (f a b,n)
def z3 {α β γ δ:Type} (f:α→β→γ→δ) (p:Zp α) (q:Zp β) (r:Zp γ):Zp δ:=fun n=>zt (p n) fun a n=>zt (q n) fun b n=>zt (r n) fun c n=> (f a b c,n)
def z4 {α β γ δ ε:Type} (f:α→β→γ→δ→ε) (p:Zp α) (q:Zp β) (r:Zp γ) (s:Zp δ):Zp ε:=fun n=>zt (p n) fun a n=>zt (q n) fun b n=>zt (r n) fun c n=>zt (s n) fun d n=> (f a b c d,n)
def zn1:Bool→Nat→Zp Nat
 |true,k=>z0 k
 |false,k=>zk (2 ^ (8*2 ^ (k - 12)))
def zn:Zp Nat:=fun n=>zt (zk 16 n) fun k n=>zn1 (Nat.blt k 12) k n
def zr {α:Type} (p:Zp α):Nat→Zp (List α)
 |0,n=> ([],n)
 |m+1,n=>zt (p n) fun a n=>zt (zr p m n) fun l n=> (a::l,n)
def zl {α:Type} (p:Zp α):Zp (List α):=fun n=>zt (zn n) fun k n=>zr p k n
def zb:Zp Bool:=fun n=> (Nat.beq (n % 2) 1,n / 2)
def zo1 {α:Type} (p:Zp α):Bool→Zp (Option α)
 |true=>z1 some p
 |false=>z0 none
def zo {α:Type} (p:Zp α):Zp (Option α):=fun n=>zt (zb n) fun b n=>zo1 p b n
def Bwb:Zp IntKind:=z1 (fun|0=> .i8|1=> .i16|2=> .i32|3=> .i64|4=> .u8|5=> .u16|6=> .u32|_=> .u64) (zk 8)
def Cbz:Zp BinOp:=z1 (fun|0=> .add|1=> .sub|2=> .mul|3=> .quo|4=> .rem|5=> .and|6=> .or|7=> .xor|8=> .shl|9=> .shr|10=> .andNot|11=> .eql|12=> .neq|13=> .lss|14=> .leq|15=> .gtr|_=> .geq) (zk 17)
def zUn:Zp UnOp:=z1 (fun|0=> .neg|1=> .xor|2=> .not|_=> .plus) (zk 4)
def B2g (u:Nat→UInt8) (m:Nat):Zp (List UInt8):=zl (z1 u (zk m))
def Bzi (i:Nat→Nat→Int) (k:Nat):Zp Int:=z1 (i k) zn
def zFn:Zp Fn:=z1 Fn.func zn
def zD1 (u:Nat→UInt8) (i:Nat→Nat→Int) (r:Zp D):Nat→Zp D
 |0=>z1 D.bool zb
 |1=>z2 D.int Bwb (Bzi i 0)
 |2=>z1 D.str (B2g u 128)
 |3=>z1 D.agg (zl r)
 |4=>z2 D.vals zn (zl r)
 |5=>z0 .nilp
 |6=>z1 D.rptr (zl r)
 |7=>z2 D.fn zFn (zl r)
 |8=>z0 .nilfn
 |9=>z2 D.iface zn r
 |10=>z0 .niface
 |11=>z2 D.mval (zl r) (zl r)
 |12=>z2 D.int Bwb (Bzi i 1)
 |13=>z0 (.str [])
 |14=>z1 D.str (B2g u 256)
 |_=>z1 (D.int .i64) (Bzi i 0)
def zD (u:Nat→UInt8) (i:Nat→Nat→Int):Nat→Zp D
 |0,n=> (.nilp,n)
 |f+1,n=>zD1 u i (zD u i f) (n % 16) (n / 16)
def zV1 (u:Nat→UInt8) (i:Nat→Nat→Int) (r:Zp V):Nat→Zp V
 |0=>z1 V.d (zD u i 8)
 |1=>z1 V.nils zn
 |2=>z1 V.agg (zl r)
 |_=>z0 .und
def zV (u:Nat→UInt8) (i:Nat→Nat→Int):Nat→Zp V
 |0,n=> (.und,n)
 |f+1,n=>zV1 u i (zV u i f) (n % 4) (n / 4)
def zO2 (u:Nat→UInt8) (i:Nat→Nat→Int):Nat→Zp AOpd
 |22,n=>z1 AOpd.t zn n
 |23,n=>z1 (fun n=>AOpd.c (.int .i64 n)) (Bzi i 0) n
 |24,n=>z1 AOpd.c (zD u i 8) n
 |25,n=>z1 AOpd.f zn n
 |26,n=>z1 AOpd.g zn n
 |27,n=>z1 AOpd.nil zn n
 |28,n=> (.u,n)
 |29,n=> (.c (.bool true),n)
 |30,n=> (.c (.bool false),n)
 |_,n=>z1 (fun n=>AOpd.c (.str n)) (B2g u 128) n
def zO1 (u:Nat→UInt8) (i:Nat→Nat→Int) (c:Nat):Bool→Nat→Zp AOpd
 |true,k,n=> (.t (c - k),n)
 |false,k,n=>zO2 u i k n
def zO (u:Nat→UInt8) (i:Nat→Nat→Int) (c:Nat):Zp AOpd:=fun n=>zt (zk 32 n) fun k n=>zO1 u i c (Nat.blt k 22) k n
def Cby:Nat→Zp BTy
 |0=>z0 .val
 |1=>z0 .bool
 |2=>z0 .iface
 |_=>z1 BTy.agg (zl (z1 (fun|0=> .i|1=> .s|_=> .b) (zk 3)))
def zBT:Zp BTy:=fun n=>Cby (n % 4) (n / 4)
def Cb2 (u:Nat→UInt8) (i:Nat→Nat→Int) (o:Zp AOpd):Nat→Zp AOp
 |15=>z2 AOp.mkfn zFn (zl o)
 |16=>z0 .mkmap
 |17=>z3 AOp.insert o o o
 |18=>z4 AOp.lookup (zD u i 8) o o zb
 |19=>z4 (fun (a:Nat×Nat) b c d=>AOp.mkslice a.1 a.2 b c d) (z2 Prod.mk zn zn) (zV u i 4) o o
 |20=>z4 AOp.slice (zo zn) o (zo o) (zo o)
 |21=>z4 (fun (a:Nat×AOpd) b c d=>AOp.slice3 a.1 a.2 b c d) (z2 Prod.mk zn o) (zo o) o o
 |22=>z4 AOp.slicec zn o (zo o) o
 |23=>z3 AOp.clear zn (zV u i 4) o
 |24=>z2 AOp.faddr zn o
 |25=>z4 AOp.field zb zn zn o
 |26=>z3 AOp.iaddr zn o o
 |27=>z2 AOp.idx o o
 |28=>z2 AOp.extract o zn
 |29=>z2 AOp.mkiface zn o
 |30=>z3 AOp.call o (zl (z2 Prod.mk zb o)) zb
 |31=>z2 AOp.pcall o (zl o)
 |32=>z2 AOp.len zb o
 |33=>z4 AOp.append zn zn o o
 |34=>z2 AOp.mnmx zb (zl o)
 |_=>z2 (fun n=>AOp.pcall (.f n)) zn (zl o)
def Cb1 (u:Nat→UInt8) (i:Nat→Nat→Int) (o:Zp AOpd):Nat→Zp AOp
 |0=>z1 AOp.mv o
 |1=>z3 AOp.pick o o o
 |2=>z1 AOp.alloc (zV u i 4)
 |3=>z1 AOp.box o
 |4=>z2 AOp.build (zl (zV u i 4)) (zl (z3 (fun a b c=> (a,b,c)) zn zn o))
 |5=>z3 AOp.lit zb zn (zl o)
 |6=>z2 AOp.litf zn (zl o)
 |7=>z3 AOp.load zb zn o
 |8=>z3 AOp.store zn o o
 |9=>z1 AOp.nilck o
 |10=>z4 AOp.bin Cbz zBT o o
 |11=>z2 AOp.un zUn o
 |12=>z2 AOp.cvInt Bwb o
 |13=>z1 AOp.cvId o
 |14=>z1 AOp.cvStr o
 |k=>Cb2 u i o k
def zOp (u:Nat→UInt8) (i:Nat→Nat→Int) (c:Nat):Zp AOp:=fun n=>Cb1 u i (zO u i c) (n % 36) (n / 36)
structure Zt where
 c:Nat
 g:Nat
 b:Bool
def zGb:Zp (Nat×Bool):=z2 Prod.mk zn zb
def B2f (u:Nat→UInt8) (i:Nat→Nat→Int) (c g:Nat) (b:Bool):Nat→Zp (AOper×Zt)
 |0=>z1 (fun x=> (⟨some (c+1),none, .mv x⟩,⟨c+1,g,b⟩)) (zO u i (c+1))
 |1=>z1 (fun x=> (⟨some (c+1),none,x⟩,⟨c+1,g,b⟩)) (zOp u i (c+1))
 |2=>fun n=>zt (zn n) fun d=>z1 (fun x=> (⟨some d,none,x⟩,⟨d,g,b⟩)) (zOp u i d)
 |3=>z1 (fun x=> (⟨some (c+1),some (g,b),x⟩,⟨c+1,g,b⟩)) (zOp u i (c+1))
 |4=>fun n=>zt (zGb n) fun g=>z1 (fun x=> (⟨some (c+1),some g,x⟩,⟨c+1,g.1,g.2⟩)) (zOp u i (c+1))
 |5=>fun n=>zt (zGb n) fun g n=>zt (zn n) fun d=>z1 (fun x=> (⟨some d,some g,x⟩,⟨d,g.1,g.2⟩)) (zOp u i d)
 |6=>z1 (fun x=> (⟨none,none,x⟩,⟨c,g,b⟩)) (zOp u i c)
 |7=>fun n=>zt (zn n) fun d=>z1 (fun x=> (⟨some d,none, .mv x⟩,⟨d,g,b⟩)) (zO u i d)
 |_=>fun n=>zt (zGb n) fun g=>z1 (fun x=> (⟨none,some g,x⟩,⟨c,g.1,g.2⟩)) (zOp u i c)
def B0i (u:Nat→UInt8) (i:Nat→Nat→Int) (t:Zt):Zp (AOper×Zt):=fun n=>B2f u i t.c t.g t.b (n % 9) (n / 9)
def zOs (u:Nat→UInt8) (i:Nat→Nat→Int):Nat→Zt→Zp (List AOper×Zt)
 |0,t,n=> (([],t),n)
 |m+1,t,n=>zt (B0i u i t n) fun x n=>zt (zOs u i m x.2 n) fun l n=> ((x.1::l.1,l.2),n)
def zOb (u:Nat→UInt8) (i:Nat→Nat→Int):Nat→Zt→Zp (List (Bool×AOper)×Zt)
 |0,t,n=> (([],t),n)
 |m+1,t,n=>zt (zb n) fun b n=>zt (B0i u i t n) fun x n=>zt (zOb u i m x.2 n) fun l n=> (((b,x.1)::l.1,l.2),n)
def B2c (x:Nat) (l:List Nat):Nat→List Nat
 |0=>l
 |_=>x::l
def B0h:List Nat→Nat→List Nat
 | [],_=> []
 |x::r,n=>B2c x (B0h r (n / 2)) (n % 2)
def B70 (x y:Nat) (r s:List Nat):Bool→List Nat
 |true=>x::y::r
 |false=>y::s
def B7z (x:Nat):List Nat→List Nat
 | []=> [x]
 |y::r=>B70 x y r (B7z x r) (Nat.blt x y)
def zIn:List Nat→List Nat→List Nat
 | [],l=>l
 |x::r,l=>zIn r (B7z x l)
def zLv (l:List Nat):Zp (List Nat):=fun n=>zt (zk (2 ^ l.length) n) fun k n=>zt (zl zn n) fun m n=> (zIn m (B0h l k),n)
structure Zr where
 a:ACode
 t:Zt
 l:List Nat
 n:Nat
def zy {β:Type} (k:ACode→Zt→List Nat→Nat→β) (a:ACode) (t:Zt) (l:List Nat) (n:Nat):β:=k a t l n
def zz {β:Type} (r:Zr) (k:ACode→Zt→List Nat→Nat→β):β:=zy k r.a r.t r.l r.n
def B71 (u:Nat→UInt8) (i:Nat→Nat→Int) (c:Nat):Zp (Nat×List V×AOpd):=z3 (fun a b c=> (a,b,c)) zn (zl (zV u i 4)) (zO u i c)
def zC1 (u:Nat→UInt8) (i:Nat→Nat→Int) (L:Nat→ACode) (r:Zt→List Nat→Nat→Zr) (t:Zt) (l:List Nat):Nat→Nat→Zr
 |0,n=> ⟨.skip,t,l,n⟩
 |1,n=>zt (zb n) fun b n=>zt (zn n) fun m n=>zt (zOs u i m t n) fun x n=> ⟨.reg b x.1,x.2,l,n⟩
 |2,n=>zt (zn n) fun m n=>zt (zOb u i m t n) fun x n=> ⟨.regx x.1,x.2,l,n⟩
 |3,n=>zt (zLv l n) fun l n=>zt (zn n) fun m n=>zt (zOs u i m t n) fun x n=>zt (B71 u i x.2.c n) fun a n=>zt (B71 u i x.2.c n) fun b n=> ⟨.reg2 l x.1 a.1 a.2.1 a.2.2 b.1 b.2.1 b.2.2,x.2,l,n⟩
 |4,n=>zz (r t l n) fun x t l n=>zt (zLv l n) fun l n=>zz (r t l n) fun y t l' n=> ⟨.seq x l y,t,l',n⟩
 |5,n=>zt (zO u i t.c n) fun o n=>zz (r t l n) fun x t l n=>zz (r t l n) fun y t l n=> ⟨.cond o x y,t,l,n⟩
 |6,n=>zt (zn n) fun k n=>zz (r t l n) fun x t l n=> ⟨.block k x,t,l,n⟩
 |7,n=>zt (zLv l n) fun l n=>zt (zn n) fun k n=> ⟨.loop l (L k),t,l,n⟩
 |8,n=>zz (r t l n) fun x t l n=> ⟨.scope x,t,l,n⟩
 |9,n=>zt (zLv l n) fun k n=>zz (r t k n) fun x t l n=> ⟨.trim k x,t,l,n⟩
 |10,n=>zt (zn n) fun k n=> ⟨.exit k,t,l,n⟩
 |11,n=>zt (zn n) fun k n=> ⟨L k,t,l,n⟩
 |_,n=> ⟨.ret,t,l,n⟩
def zC (u:Nat→UInt8) (i:Nat→Nat→Int) (L:Nat→ACode):Nat→Zt→List Nat→Nat→Zr
 |0,t,l,n=> ⟨.skip,t,l,n⟩
 |f+1,t,l,n=>zC1 u i L (zC u i L f) t l (n % 13) (n / 13)
def B72:Bool→Zp ARes
 |true=>z1 ARes.tmp zn
 |false=>z3 ARes.cell zn zb zn
def Cb4:Zp ARes:=fun n=>zt (zb n) B72
def zA (u:Nat→UInt8) (i:Nat→Nat→Int) (n:Nat) (L:Nat→ACode):ACode:=(zC u i L 400 ⟨0,0,true⟩ [] n).a
def zF (u:Nat→UInt8) (i:Nat→Nat→Int) (n:Nat) (L:Nat→ACode):AFunc:=zt (z4 (fun a b c d=> (a,b,c,d)) zn zn (zl Cb4) zb n) fun a n=> ⟨a.1,a.2.1,a.2.2.1,a.2.2.2,zA u i n L⟩
def zI:Nat→Nat→Int
 |0,n=>n
 |_,n=> -n
def zL (ls:List ACode) (k:Nat):ACode:=ls.getD k .skip
theorem Cb6 {n:Nat} {ls:List ACode} {X: (Nat→UInt8)→(Nat→Nat→Int)→(Nat→ACode)→AFunc} {x:AFunc} (h: ∀u i L,zF u i n L=X u i L) (h2:X UInt8.ofNat zI (zL ls)=x):zF UInt8.ofNat zI n (zL ls)=x:=h2▸h _ _ _
theorem Dy {n:Nat} {ls:List ACode} {x:AFunc} (h:zF UInt8.ofNat zI n (zL ls)=x:=by(apply Cb6; (intro u i L;cbv); (try simp only[UInt8.reduceOfNat,zI,zL,Int.cast_ofNat_Int,List.getD_cons_zero,List.getD_cons_succ])<;>rfl)):zF UInt8.ofNat zI n (zL ls)=x:=h
theorem Cb5 {n:Nat} {ls:List ACode} {X: (Nat→UInt8)→(Nat→Nat→Int)→(Nat→ACode)→ACode} {x:ACode} (h: ∀u i L,zA u i n L=X u i L) (h2:X UInt8.ofNat zI (zL ls)=x):zA UInt8.ofNat zI n (zL ls)=x:=h2▸h _ _ _
theorem M8 {n:Nat} {ls:List ACode} {x:ACode} (h:zA UInt8.ofNat zI n (zL ls)=x:=by(apply Cb5; (intro u i L;cbv); (try simp only[UInt8.reduceOfNat,zI,zL,Int.cast_ofNat_Int,List.getD_cons_zero,List.getD_cons_succ])<;>rfl)):zA UInt8.ofNat zI n (zL ls)=x:=h
abbrev ZF (n:Nat) (ls:List ACode):= {x:AFunc // zF UInt8.ofNat zI n (zL ls)=x}
abbrev ZA (n:Nat) (ls:List ACode):= {x:ACode // zA UInt8.ofNat zI n (zL ls)=x}
end Go.Ev
