/- Lemmas (several texts in one). -/
import Derived.Test.YtpajcoanfkeibaaGreatDoorMDoKind6
import Derived.Test.YtpajcoanfkeibaaGreatDoorMDoKind10
set_option maxRecDepth 100000
set_option maxHeartbeats 4000000
set_option linter.unusedSimpArgs false
set_option linter.unusedVariables false
open List renaming length_map → Cdo, getD_eq_getElem?_getD → Cda
namespace Go.Proofs.YtpajcoanfkeibaaGreatDoor.Code
open Go Go.Ev Go.Proofs
def rh (H:Hp) (r:Nat) (bs:List Int) (q:Int) (l:Hp):Hp:=ap (Bw H r (rd bs q)) l
section
variable (H l:Hp) (r:Nat) (bs:List Int) (q:Int)
theorem D8 (o:Ev.Obj):Bp (rh H r bs q l) o=rh H r bs q ((l:List Ev.Obj)++[o]):=Bff _ _ _
theorem Gd:Bc (rh H r bs q l)=Bc H+l.length:=by unfold rh;rw[Yk,Bt]
theorem F8 (k:Nat):Cc (rh H r bs q l) (Bc H+k)=Cc l k:=by
 have:=Qa (Bw H r (rd bs q)) l k
 rwa[Bt] at this
theorem Fj:Cc (rh H r bs q l) (Bc H)=Cc l 0:=F8 H l r bs q 0
theorem Gf (k:Nat) (o:Ev.Obj):Bw (rh H r bs q l) (Bc H+k) o=rh H r bs q (Bw l k o):=by
 have:=Q7 (Bw H r (rd bs q)) l k o
 rwa[Bt] at this
theorem Fp (o:Ev.Obj):Bw (rh H r bs q l) (Bc H) o=rh H r bs q (Bw l 0 o):=Gf H l r bs q 0 o
theorem Fq:Cx (rh H r bs q l) (Bc H)=Bw H r (rd bs q):=by
 have:=Ll (Bw H r (rd bs q)) l
 rwa[Bt] at this
theorem Dv (k:Nat):Cx (rh H r bs q l) (Bc H+k)=rh H r bs q (l.take k):=by
 have:=Wz (Bw H r (rd bs q)) l k
 rwa[Bt] at this
theorem Bi2 (hr:r<Bc H):Cc (rh H r bs q l) r=some (rd bs q):=by
 unfold rh
 rw[Rn,ap,List.getElem?_append_left (by simpa[Bt,Bc] using(show r<Bc (Bw H r (rd bs q)) by rw[Bt];exact hr)),←Rn]
 exact Cn _ hr
theorem Bgn (hr:r<Bc H) (q':Int):Bw (rh H r bs q l) r (rd bs q')=rh H r bs q' l:=by
 unfold rh
 have:Bc (Bw H r (rd bs q))=(Bw H r (rd bs q)).length:=rfl
 rw[Xo,ap,ap,List.set_append_left _ _ (by rw[←this,Bt];exact hr),←Xo,Mf]
theorem Gc (k g i n:Nat):Yz (Bc H) (rh H r bs q l) (.slc (Bc H+k) g i n)=(match Cc l k with
  |some (.row g' e xs)=>bif Nat.beq g' g then(if i+n≤xs.length then(match Gp (fz (Bc H) 7 (rh H r bs q l)) ((xs.drop i).take n) with|some ys=>some (.d (.vals e ys)) |none=>none) else none) else none
  |_=>none):=by
 have:=Bfu (Bw H r (rd bs q)) l k g i n
 rwa[Bt] at this
theorem Fh (g i n:Nat):Yz (Bc H) (rh H r bs q l) (.slc (Bc H) g i n)=(match Cc l 0 with
  |some (.row g' e xs)=>bif Nat.beq g' g then(if i+n≤xs.length then(match Gp (fz (Bc H) 7 (rh H r bs q l)) ((xs.drop i).take n) with|some ys=>some (.d (.vals e ys)) |none=>none) else none) else none
  |_=>none):=Gc H l r bs q 0 g i n
theorem B1l (m k g e n:Nat) (ds:List D) (hm:m≤k) (h:Cc l k=some (.row g e (ds.map V.d))) (hn:n=ds.length):Yz (Bc H+m) (rh H r bs q l) (.slc (Bc H+k) g 0 n)=some (.d (.vals e ds)):=by
 have hr:C8 (rh H r bs q l) (Bc H+k) g=some (e,ds.map V.d):=by
  unfold C8
  rw[F8,h]
  simp
 have hmm:Gp (fz (Bc H+m) 7 (rh H r bs q l)) (((ds.map V.d).drop 0).take n)=some ds:=by
  rw[List.drop_zero,List.take_of_length_le (by rw[Cdo];omega)]
  exact Ta (Wy ds)
 have:=Bbr (n:=Bc H+m) (d:=7) (r:=Bc H+k) (g:=g) (i:=0) (k:=n) (by omega) hr (by rw[Cdo];omega) hmm
 show(if Bc H+k<Bc H+m then _ else(match fz (Bc H+m) Pb _ (.slc (Bc H+k) g 0 n) with|some x=>some (V.d x) |none=>none))=_
 rw[if_neg (by omega),show Pb=7+1 from rfl,this]
theorem Btv {p:Int} (h:Cc H r=some (rd bs p)):H=rh H r bs p []:=by
 unfold rh
 rw[Brn,F7 h]
theorem Jw (l':Hp):ap (rh H r bs q l) l'=rh H r bs q ((l:List Ev.Obj)++l'):=by
 unfold rh;rw[Bmz]
end
theorem Bgm {H l:Hp} {r:Nat} {bs:List Int} {q q':Int} {k:Nat} {args:List V} {v:V} (hr:r<Bc H) (h:ev R k args (rh H r bs q l)=some (v,Bw (rh H r bs q l) r (rd bs q'))):ev R k args (rh H r bs q l)=some (v,rh H r bs q' l):=by
 rw[h,Bgn H l r bs q hr]
theorem Mo {H l:Hp} {r:Nat} {bs:List Int} {q:Int} (n:Int) (hr:r<Bc H) (hb:Dl bs) (h0:0≤q) (h1:q≤1000000000000):ev R 43 [.ptr r 0 0 0, .d (.int .i64 n)] (rh H r bs q l)=some (.d (.int .i64 (Dg bs q n)),rh H r bs (q+1) l):=
 Bgm hr (Br9 _ r bs q n (Bi2 H l r bs q hr) hb h0 h1)
theorem B0c {H l:Hp} {r:Nat} {bs:List Int} {q:Int} (xs:List Br) (hr:r<Bc H) (hb:Dl bs) (h0:0≤q) (h1:q≤1000000000000) (hx:0<xs.length):ev R 45 [.ptr r 0 0 0, .d (Bf xs)] (rh H r bs q l)=some (.d (.str (ofV bs q xs)),rh H r bs (q+1) l):=
 Bgm hr (Bw4 _ r bs q xs (Bi2 H l r bs q hr) hb h0 h1 hx)
abbrev Bst (ns:List Int):D:= .vals 1 (ns.map (D.int .i64))
def Bh7 (bs:List Int) (q:Int) (ns:List Int):Int:=ns.getD (Dg bs q ns.length).toNat 0
theorem Bcc (bs:List Int) (q:Int) (ns:List Int) (hb:Dl bs) (h0:0≤q) (h1:q≤1000000000000) (hn:0<ns.length):Bh7 bs q ns∈ns:=by
 unfold Bh7
 have:=Jg bs q ns.length hb h0 h1
 have h2:=this.2 (by omega)
 have hi: (Dg bs q ns.length).toNat<ns.length:=by omega
 rw[Cda,List.getElem?_eq_getElem hi]
 exact List.getElem_mem hi
theorem B8c (H:Hp) (r:Nat) (bs:List Int) (p:Int) (ns:List Int) (h:Cc H r=some (rd bs p)) (hb:Dl bs) (hp:0≤p) (hp2:p≤1000000000000) (hx:0<ns.length) (hx2:ns.length≤1000000):ev R 44 [.ptr r 0 0 0, .d (Bst ns)] H=some (.d (.int .i64 (Bh7 bs p ns)),Bw H r (rd bs (p+1))):=by
 refine Bh (fn:=f44) rfl rfl ?_
 have e:=Br9 H r bs p ns.length h hb hp hp2
 obtain⟨k0,k1⟩:=Jg bs p ns.length hb hp hp2
 have k1:=k1 (by omega)
 unfold Bh7
 generalize Dg bs p ns.length=z at*
 obtain⟨k,rfl⟩:=Int.eq_ofNat_of_zero_le k0
 have hk:k<ns.length:=by omega
 have g: (ns.map (D.int .i64)).getD k .nilp= .int .i64 (ns.getD k 0):=by simp[Cda,hk]
 simp[Cm,-Cda,-List.map_map,f44,e,k0,k1,hk,g,Lf]
theorem Blz {H l:Hp} {r:Nat} {bs:List Int} {q:Int} (ns:List Int) (hr:r<Bc H) (hb:Dl bs) (h0:0≤q) (h1:q≤1000000000000) (hx:0<ns.length) (hx2:ns.length≤1000000):ev R 44 [.ptr r 0 0 0, .d (Bst ns)] (rh H r bs q l)=some (.d (.int .i64 (Bh7 bs q ns)),rh H r bs (q+1) l):=
 Bgm hr (B8c _ r bs q ns (Bi2 H l r bs q hr) hb h0 h1 hx hx2)
theorem Btw {H l:Hp} {r:Nat} {bs:List Int} {q:Int} (hr:r<Bc H) (hb:Dl bs) (h0:0≤q) (h1:q≤1000000000):
  ∃ (ts:List Br) (q':Int),ev R 64 [.ptr r 0 0 0] (rh H r bs q l)=some (.slc (Bc H+l.length) 0 0 ts.length,rh H r bs q' ((l:List Ev.Obj)++[.row 0 1 ((ts.map D.str).map V.d)]))∧q≤q'∧q'≤q+20∧1≤ts.length∧ts.length≤8∧∀x∈ts,x.length≤40:=by
 obtain⟨ts,q',he,a,b,c,d,f⟩:=B8h _ r bs q (Bi2 H l r bs q hr) hb h0 h1
 refine⟨ts,q', ?_,a,b,c,d,f⟩
 rw[he,Bgn H l r bs q hr,D8,Gd]
 rfl
def Nxt (I:Nat→Env→Hp→Prop) (n:Nat) (e:Env) (X:Hp):Prop:=∃m,m<n∧I m e X
end Go.Proofs.YtpajcoanfkeibaaGreatDoor.Code
