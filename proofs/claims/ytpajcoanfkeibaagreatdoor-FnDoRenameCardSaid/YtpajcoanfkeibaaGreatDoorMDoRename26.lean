/- Lemmas (several texts in one). -/
import Derived.Test.YtpajcoanfkeibaaGreatDoorMDoRename6
import Derived.Test.YtpajcoanfkeibaaGreatDoorMDoRename10
set_option maxRecDepth 100000
set_option maxHeartbeats 4000000
set_option linter.unusedSimpArgs false
set_option linter.unusedVariables false
namespace Go.Proofs.YtpajcoanfkeibaaGreatDoor.Code
open Go Go.Ev Go.Proofs
def rh (H:Hp) (r:Nat) (bs:List Int) (q:Int) (l:Hp):Hp:=ap (Bz H r (rd bs q)) l
section
variable (H l:Hp) (r:Nat) (bs:List Int) (q:Int)
theorem D8 (o:Ev.Obj):Bt (rh H r bs q l) o=rh H r bs q ((l:List Ev.Obj)++[o]):=Ber _ _ _
theorem Gi:Bc (rh H r bs q l)=Bc H+l.length:=by unfold rh;rw[Yc,Br]
theorem Gc (k:Nat):Cf (rh H r bs q l) (Bc H+k)=Cf l k:=by
 have:=L8 (Bz H r (rd bs q)) l k
 rwa[Br] at this
theorem Fj:Cf (rh H r bs q l) (Bc H)=Cf l 0:=Gc H l r bs q 0
theorem Gj (k:Nat) (o:Ev.Obj):Bz (rh H r bs q l) (Bc H+k) o=rh H r bs q (Bz l k o):=by
 have:=Rc (Bz H r (rd bs q)) l k o
 rwa[Br] at this
theorem Fp (o:Ev.Obj):Bz (rh H r bs q l) (Bc H) o=rh H r bs q (Bz l 0 o):=Gj H l r bs q 0 o
theorem Fq:Cx (rh H r bs q l) (Bc H)=Bz H r (rd bs q):=by
 have:=Lh (Bz H r (rd bs q)) l
 rwa[Br] at this
theorem Dv (k:Nat):Cx (rh H r bs q l) (Bc H+k)=rh H r bs q (l.take k):=by
 have:=Wu (Bz H r (rd bs q)) l k
 rwa[Br] at this
theorem Bia (hr:r<Bc H):Cf (rh H r bs q l) r=some (rd bs q):=by
 unfold rh
 rw[P5,ap,List.getElem?_append_left (by simpa[Br,Bc] using(show r<Bc (Bz H r (rd bs q)) by rw[Br];exact hr)),←P5]
 exact Co _ hr
theorem Bfy (hr:r<Bc H) (q':Int):Bz (rh H r bs q l) r (rd bs q')=rh H r bs q' l:=by
 unfold rh
 have:Bc (Bz H r (rd bs q))=(Bz H r (rd bs q)).length:=rfl
 rw[Ro,ap,ap,List.set_append_left _ _ (by rw[←this,Br];exact hr),←Ro,Ky]
theorem Gh (k g i n:Nat):Ws (Bc H) (rh H r bs q l) (.slc (Bc H+k) g i n)=(match Cf l k with
  |some (.row g' e xs)=>bif Nat.beq g' g then(if i+n≤xs.length then(match Gq (fz (Bc H) 7 (rh H r bs q l)) ((xs.drop i).take n) with|some ys=>some (.d (.vals e ys)) |none=>none) else none) else none
  |_=>none):=by
 have:=Be7 (Bz H r (rd bs q)) l k g i n
 rwa[Br] at this
theorem Fh (g i n:Nat):Ws (Bc H) (rh H r bs q l) (.slc (Bc H) g i n)=(match Cf l 0 with
  |some (.row g' e xs)=>bif Nat.beq g' g then(if i+n≤xs.length then(match Gq (fz (Bc H) 7 (rh H r bs q l)) ((xs.drop i).take n) with|some ys=>some (.d (.vals e ys)) |none=>none) else none) else none
  |_=>none):=Gh H l r bs q 0 g i n
theorem Bz6 (m k g e n:Nat) (ds:List D) (hm:m≤k) (h:Cf l k=some (.row g e (ds.map V.d))) (hn:n=ds.length):Ws (Bc H+m) (rh H r bs q l) (.slc (Bc H+k) g 0 n)=some (.d (.vals e ds)):=by
 have hr:Cw (rh H r bs q l) (Bc H+k) g=some (e,ds.map V.d):=by
  unfold Cw
  rw[Gc,h]
  simp
 have hmm:Gq (fz (Bc H+m) 7 (rh H r bs q l)) (((ds.map V.d).drop 0).take n)=some ds:=by
  rw[List.drop_zero,List.take_of_length_le (by rw[List.length_map];omega)]
  exact P6 (Tu ds)
 have:=Yu (n:=Bc H+m) (d:=7) (r:=Bc H+k) (g:=g) (i:=0) (k:=n) (by omega) hr (by rw[List.length_map];omega) hmm
 show(if Bc H+k<Bc H+m then _ else(match fz (Bc H+m) M7 _ (.slc (Bc H+k) g 0 n) with|some x=>some (V.d x) |none=>none))=_
 rw[if_neg (by omega),show M7=7+1 from rfl,this]
theorem Bst {p:Int} (h:Cf H r=some (rd bs p)):H=rh H r bs p []:=by
 unfold rh
 rw[Bqx,Ga h]
theorem J2 (l':Hp):ap (rh H r bs q l) l'=rh H r bs q ((l:List Ev.Obj)++l'):=by
 unfold rh;rw[Bl7]
end
theorem Bfx {H l:Hp} {r:Nat} {bs:List Int} {q q':Int} {k:Nat} {args:List V} {v:V} (hr:r<Bc H) (h:ev R k args (rh H r bs q l)=some (v,Bz (rh H r bs q l) r (rd bs q'))):ev R k args (rh H r bs q l)=some (v,rh H r bs q' l):=by
 rw[h,Bfy H l r bs q hr]
theorem Mm {H l:Hp} {r:Nat} {bs:List Int} {q:Int} (n:Int) (hr:r<Bc H) (hb:Dk bs) (h0:0≤q) (h1:q≤1000000000000):ev R 43 [.ptr r 0 0 0, .d (.int .i64 n)] (rh H r bs q l)=some (.d (.int .i64 (Dc bs q n)),rh H r bs (q+1) l):=
 Bfx hr (Brf _ r bs q n (Bia H l r bs q hr) hb h0 h1)
theorem By1 {H l:Hp} {r:Nat} {bs:List Int} {q:Int} (xs:List Bq) (hr:r<Bc H) (hb:Dk bs) (h0:0≤q) (h1:q≤1000000000000) (hx:0<xs.length):ev R 45 [.ptr r 0 0 0, .d (Bf xs)] (rh H r bs q l)=some (.d (.str (ofV bs q xs)),rh H r bs (q+1) l):=
 Bfx hr (Bvw _ r bs q xs (Bia H l r bs q hr) hb h0 h1 hx)
abbrev Bru (ns:List Int):D:= .vals 1 (ns.map (D.int .i64))
def Bhg (bs:List Int) (q:Int) (ns:List Int):Int:=ns.getD (Dc bs q ns.length).toNat 0
theorem Bbz (bs:List Int) (q:Int) (ns:List Int) (hb:Dk bs) (h0:0≤q) (h1:q≤1000000000000) (hn:0<ns.length):Bhg bs q ns∈ns:=by
 unfold Bhg
 have:=Jj bs q ns.length hb h0 h1
 have h2:=this.2 (by omega)
 have hi: (Dc bs q ns.length).toNat<ns.length:=by omega
 rw[List.getD_eq_getElem?_getD,List.getElem?_eq_getElem hi]
 exact List.getElem_mem hi
theorem B6b (H:Hp) (r:Nat) (bs:List Int) (p:Int) (ns:List Int) (h:Cf H r=some (rd bs p)) (hb:Dk bs) (hp:0≤p) (hp2:p≤1000000000000) (hx:0<ns.length) (hx2:ns.length≤1000000):ev R 44 [.ptr r 0 0 0, .d (Bru ns)] H=some (.d (.int .i64 (Bhg bs p ns)),Bz H r (rd bs (p+1))):=by
 refine Bh (fn:=f44) rfl rfl ?_
 have e:=Brf H r bs p ns.length h hb hp hp2
 obtain⟨k0,k1⟩:=Jj bs p ns.length hb hp hp2
 have k1:=k1 (by omega)
 unfold Bhg
 generalize Dc bs p ns.length=z at*
 obtain⟨k,rfl⟩:=Int.eq_ofNat_of_zero_le k0
 have hk:k<ns.length:=by omega
 have g: (ns.map (D.int .i64)).getD k .nilp= .int .i64 (ns.getD k 0):=by simp[List.getD_eq_getElem?_getD,hk]
 simp[Cn,-List.getD_eq_getElem?_getD,-List.map_map,f44,e,k0,k1,hk,g,Lb]
theorem Bk7 {H l:Hp} {r:Nat} {bs:List Int} {q:Int} (ns:List Int) (hr:r<Bc H) (hb:Dk bs) (h0:0≤q) (h1:q≤1000000000000) (hx:0<ns.length) (hx2:ns.length≤1000000):ev R 44 [.ptr r 0 0 0, .d (Bru ns)] (rh H r bs q l)=some (.d (.int .i64 (Bhg bs q ns)),rh H r bs (q+1) l):=
 Bfx hr (B6b _ r bs q ns (Bia H l r bs q hr) hb h0 h1 hx hx2)
theorem Bsu {H l:Hp} {r:Nat} {bs:List Int} {q:Int} (hr:r<Bc H) (hb:Dk bs) (h0:0≤q) (h1:q≤1000000000):
  ∃ (ts:List Bq) (q':Int),ev R 64 [.ptr r 0 0 0] (rh H r bs q l)=some (.slc (Bc H+l.length) 0 0 ts.length,rh H r bs q' ((l:List Ev.Obj)++[.row 0 1 ((ts.map D.str).map V.d)]))∧q≤q'∧q'≤q+20∧1≤ts.length∧ts.length≤8∧∀x∈ts,x.length≤40:=by
 obtain⟨ts,q',he,a,b,c,d,f⟩:=B6g _ r bs q (Bia H l r bs q hr) hb h0 h1
 refine⟨ts,q', ?_,a,b,c,d,f⟩
 rw[he,Bfy H l r bs q hr,D8,Gi]
 rfl
def Nxt (I:Nat→Env→Hp→Prop) (n:Nat) (e:Env) (X:Hp):Prop:=∃m,m<n∧I m e X
end Go.Proofs.YtpajcoanfkeibaaGreatDoor.Code
