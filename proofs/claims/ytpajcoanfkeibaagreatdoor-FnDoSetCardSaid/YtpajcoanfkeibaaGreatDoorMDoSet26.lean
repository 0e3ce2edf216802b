/- Lemmas (several texts in one). -/
import Derived.Test.YtpajcoanfkeibaaGreatDoorMDoSet6
import Derived.Test.YtpajcoanfkeibaaGreatDoorMDoSet10
set_option maxRecDepth 100000
set_option maxHeartbeats 4000000
set_option linter.unusedSimpArgs false
set_option linter.unusedVariables false
namespace Go.Proofs.YtpajcoanfkeibaaGreatDoor.Code
open Go Go.Ev Go.Proofs
def rh (H:Hp) (r:Nat) (bs:List Int) (q:Int) (l:Hp):Hp:=ap (Bw H r (rd bs q)) l
section
variable (H l:Hp) (r:Nat) (bs:List Int) (q:Int)
theorem Dh (o:Ev.Obj):Bu (rh H r bs q l) o=rh H r bs q ((l:List Ev.Obj)++[o]):=Be6 _ _ _
theorem D8:Be (rh H r bs q l)=Be H+l.length:=by unfold rh;rw[Yh,Br]
theorem D6 (k:Nat):Ce (rh H r bs q l) (Be H+k)=Ce l k:=by
 have:=Mm (Bw H r (rd bs q)) l k
 rwa[Br] at this
theorem Dm:Ce (rh H r bs q l) (Be H)=Ce l 0:=D6 H l r bs q 0
theorem D9 (k:Nat) (o:Ev.Obj):Bw (rh H r bs q l) (Be H+k) o=rh H r bs q (Bw l k o):=by
 have:=Rn (Bw H r (rd bs q)) l k o
 rwa[Br] at this
theorem Dn (o:Ev.Obj):Bw (rh H r bs q l) (Be H) o=rh H r bs q (Bw l 0 o):=D9 H l r bs q 0 o
theorem Cv:C8 (rh H r bs q l) (Be H)=Bw H r (rd bs q):=by
 have:=L6 (Bw H r (rd bs q)) l
 rwa[Br] at this
theorem Cs (k:Nat):C8 (rh H r bs q l) (Be H+k)=rh H r bs q (l.take k):=by
 have:=Wz (Bw H r (rd bs q)) l k
 rwa[Br] at this
theorem Bis (hr:r<Be H):Ce (rh H r bs q l) r=some (rd bs q):=by
 unfold rh
 rw[Qf,ap,List.getElem?_append_left (by simpa[Br,Be] using(show r<Be (Bw H r (rd bs q)) by rw[Br];exact hr)),←Qf]
 exact Cn _ hr
theorem Bgd (hr:r<Be H) (q':Int):Bw (rh H r bs q l) r (rd bs q')=rh H r bs q' l:=by
 unfold rh
 have:Be (Bw H r (rd bs q))=(Bw H r (rd bs q)).length:=rfl
 rw[Rx,ap,ap,List.set_append_left _ _ (by rw[←this,Br];exact hr),←Rx,K9]
theorem D7 (k g i n:Nat):Td (Be H) (rh H r bs q l) (.slc (Be H+k) g i n)=(match Ce l k with
  |some (.row g' e xs)=>bif Nat.beq g' g then(if i+n≤xs.length then(match Gs (fz (Be H) 7 (rh H r bs q l)) ((xs.drop i).take n) with|some ys=>some (.d (.vals e ys)) |none=>none) else none) else none
  |_=>none):=by
 have:=Bfn (Bw H r (rd bs q)) l k g i n
 rwa[Br] at this
theorem Dl (g i n:Nat):Td (Be H) (rh H r bs q l) (.slc (Be H) g i n)=(match Ce l 0 with
  |some (.row g' e xs)=>bif Nat.beq g' g then(if i+n≤xs.length then(match Gs (fz (Be H) 7 (rh H r bs q l)) ((xs.drop i).take n) with|some ys=>some (.d (.vals e ys)) |none=>none) else none) else none
  |_=>none):=D7 H l r bs q 0 g i n
theorem B03 (m k g e n:Nat) (ds:List D) (hm:m≤k) (h:Ce l k=some (.row g e (ds.map V.d))) (hn:n=ds.length):Td (Be H+m) (rh H r bs q l) (.slc (Be H+k) g 0 n)=some (.d (.vals e ds)):=by
 have hr:Cz (rh H r bs q l) (Be H+k) g=some (e,ds.map V.d):=by
  unfold Cz
  rw[D6,h]
  simp
 have hmm:Gs (fz (Be H+m) 7 (rh H r bs q l)) (((ds.map V.d).drop 0).take n)=some ds:=by
  rw[List.drop_zero,List.take_of_length_le (by rw[List.length_map];omega)]
  exact Qg (Ud ds)
 have:=Yy (n:=Be H+m) (d:=7) (r:=Be H+k) (g:=g) (i:=0) (k:=n) (by omega) hr (by rw[List.length_map];omega) hmm
 show(if Be H+k<Be H+m then _ else(match fz (Be H+m) Nl _ (.slc (Be H+k) g 0 n) with|some x=>some (V.d x) |none=>none))=_
 rw[if_neg (by omega),show Nl=7+1 from rfl,this]
theorem Blr {p:Int} (h:Ce H r=some (rd bs p)):H=rh H r bs p []:=by
 unfold rh
 rw[Brc,Gg h]
theorem Gi (l':Hp):ap (rh H r bs q l) l'=rh H r bs q ((l:List Ev.Obj)++l'):=by
 unfold rh;rw[Bmt]
end
theorem Bgc {H l:Hp} {r:Nat} {bs:List Int} {q q':Int} {k:Nat} {args:List V} {v:V} (hr:r<Be H) (h:ev R k args (rh H r bs q l)=some (v,Bw (rh H r bs q l) r (rd bs q'))):ev R k args (rh H r bs q l)=some (v,rh H r bs q' l):=by
 rw[h,Bgd H l r bs q hr]
theorem La {H l:Hp} {r:Nat} {bs:List Int} {q:Int} (n:Int) (hr:r<Be H) (hb:Dg bs) (h0:0≤q) (h1:q≤1000000000000):ev R 43 [.ptr r 0 0 0, .d (.int .i64 n)] (rh H r bs q l)=some (.d (.int .i64 (Cy bs q n)),rh H r bs (q+1) l):=
 Bgc hr (Brx _ r bs q n (Bis H l r bs q hr) hb h0 h1)
theorem Bnr {H l:Hp} {r:Nat} {bs:List Int} {q:Int} (xs:List Bq) (hr:r<Be H) (hb:Dg bs) (h0:0≤q) (h1:q≤1000000000000) (hx:0<xs.length):ev R 45 [.ptr r 0 0 0, .d (Bf xs)] (rh H r bs q l)=some (.d (.str (ofV bs q xs)),rh H r bs (q+1) l):=
 Bgc hr (Bwh _ r bs q xs (Bis H l r bs q hr) hb h0 h1 hx)
abbrev Bsd (ns:List Int):D:= .vals 1 (ns.map (D.int .i64))
def Bhv (bs:List Int) (q:Int) (ns:List Int):Int:=ns.getD (Cy bs q ns.length).toNat 0
theorem Bb8 (bs:List Int) (q:Int) (ns:List Int) (hb:Dg bs) (h0:0≤q) (h1:q≤1000000000000) (hn:0<ns.length):Bhv bs q ns∈ns:=by
 unfold Bhv
 have:=Jj bs q ns.length hb h0 h1
 have h2:=this.2 (by omega)
 have hi: (Cy bs q ns.length).toNat<ns.length:=by omega
 rw[List.getD_eq_getElem?_getD,List.getElem?_eq_getElem hi]
 exact List.getElem_mem hi
theorem B7s (H:Hp) (r:Nat) (bs:List Int) (p:Int) (ns:List Int) (h:Ce H r=some (rd bs p)) (hb:Dg bs) (hp:0≤p) (hp2:p≤1000000000000) (hx:0<ns.length) (hx2:ns.length≤1000000):ev R 44 [.ptr r 0 0 0, .d (Bsd ns)] H=some (.d (.int .i64 (Bhv bs p ns)),Bw H r (rd bs (p+1))):=by
 refine Bh (fn:=f44) rfl rfl ?_
 have e:=Brx H r bs p ns.length h hb hp hp2
 obtain⟨k0,k1⟩:=Jj bs p ns.length hb hp hp2
 have k1:=k1 (by omega)
 unfold Bhv
 generalize Cy bs p ns.length=z at*
 obtain⟨k,rfl⟩:=Int.eq_ofNat_of_zero_le k0
 have hk:k<ns.length:=by omega
 have g: (ns.map (D.int .i64)).getD k .nilp= .int .i64 (ns.getD k 0):=by simp[List.getD_eq_getElem?_getD,hk]
 simp[Cm,-List.getD_eq_getElem?_getD,-List.map_map,f44,e,k0,k1,hk,g,Lr]
theorem Bls {H l:Hp} {r:Nat} {bs:List Int} {q:Int} (ns:List Int) (hr:r<Be H) (hb:Dg bs) (h0:0≤q) (h1:q≤1000000000000) (hx:0<ns.length) (hx2:ns.length≤1000000):ev R 44 [.ptr r 0 0 0, .d (Bsd ns)] (rh H r bs q l)=some (.d (.int .i64 (Bhv bs q ns)),rh H r bs (q+1) l):=
 Bgc hr (B7s _ r bs q ns (Bis H l r bs q hr) hb h0 h1 hx hx2)
theorem Bir {H l:Hp} {r:Nat} {bs:List Int} {q:Int} (hr:r<Be H) (hb:Dg bs) (h0:0≤q) (h1:q≤1000000000):
  ∃ (ts:List Bq) (q':Int),ev R 64 [.ptr r 0 0 0] (rh H r bs q l)=some (.slc (Be H+l.length) 0 0 ts.length,rh H r bs q' ((l:List Ev.Obj)++[.row 0 1 ((ts.map D.str).map V.d)]))∧q≤q'∧q'≤q+20∧1≤ts.length∧ts.length≤8∧∀x∈ts,x.length≤40:=by
 obtain⟨ts,q',he,a,b,c,d,f⟩:=B7x _ r bs q (Bis H l r bs q hr) hb h0 h1
 refine⟨ts,q', ?_,a,b,c,d,f⟩
 rw[he,Bgd H l r bs q hr,Dh,D8]
 rfl
def Nxt (I:Nat→Env→Hp→Prop) (n:Nat) (e:Env) (X:Hp):Prop:=∃m,m<n∧I m e X
def aoP:ACode:=(f39.body.tl.tl).hd
def aoS:ACode:=f39.body.tl.tl.tl
theorem Bz0:f39= { f39 with body:= .seq f39.body.hd f39.body.lv (.seq f39.body.tl.hd f39.body.tl.lv (.seq aoP f39.body.tl.tl.lv aoS)) } :=rfl
def Sl (g:Nat) (ts:List Bq):Ev.Obj:= .row g 1 ((ts.map D.str).map V.d)
theorem Bas {H:Hp} {r:Nat} {bs:List Int} {q:Int} (g:Nat) (us:List Bq) (k:Nat) (hk:k≤us.length):Td (Be H) (rh H r bs q [Sl g us]) (.slc (Be H) g 0 k)=some (.d (Bf (us.take k))):=by
 have hl:=Br H r (rd bs q)
 show Td (Be H) (Bu (Bw H r (rd bs q)) (.row g 1 ((us.map D.str).map V.d))) _=_
 rw[←hl,Xn _ g 1 (us.map D.str) k (by simpa using hk)]
 simp[Bf]
theorem Bzy (H:Hp) (r:Nat) (bs:List Int) (q:Int) (t0:Bq) (ts:List Bq) (hr:r<Be H) (hb:Dg bs) (h0:0≤q) (h1:q≤1000000000) (env:Env) (g0:env.get 0= .ptr r 0 0 0) (g3:env.get 3= .slc (Be H) 0 0 (ts.length+1)):
  ∃ (n1:Nat) (q':Int),(n1=ts.length+1∨(n1=1∧ts.length=2))∧q≤q'∧q'≤q+1∧Gives (fun o e' X=>o= .normal∧X=rh H r bs q' [Sl 0 (t0::ts)]∧e'.get 0= .ptr r 0 0 0∧e'.get 3= .slc (Be H) 0 0 n1) (Bp (ev R) R.glob (Be H) Bg aoP ⟨env,rh H r bs q [Sl 0 (t0::ts)]⟩):=by
 have p2:=fun l=>La (H:=H) (l:=l) (r:=r) (bs:=bs) (q:=q) 2 hr hb h0 (by omega)
 have li: (0:Int)< (ts.length:Int)+1:=by omega
 by_cases a:ts.length=2
 ·have a': (ts.length:Int)+1=3:=by omega
  by_cases b:Cy bs q 2=0
  ·by_cases c:t0=[68,66,83,73,90,69]
   ·exact⟨1,q+1, .inr ⟨rfl,a⟩,by omega,by omega,by simp(maxSteps:=1000000) [Ca,Dh,D8,D6,Dm,D9,Dn,Cv,Cs,D7,Dl,Gi,-List.getD_eq_getElem?_getD,-List.map_map,aoP,f39,ACode.hd,ACode.tl,g0,g3,p2,a',b,eq_true c,Sl,li,a]⟩
   ·by_cases d:t0=[70,76,85,83,72]
    ·exact⟨1,q+1, .inr ⟨rfl,a⟩,by omega,by omega,by simp(maxSteps:=1000000) [Ca,Dh,D8,D6,Dm,D9,Dn,Cv,Cs,D7,Dl,Gi,-List.getD_eq_getElem?_getD,-List.map_map,aoP,f39,ACode.hd,ACode.tl,g0,g3,p2,a',b,eq_false c,eq_true d,Sl,li,a]⟩
    ·exact⟨_,q+1, .inl rfl,by omega,by omega,by simp(maxSteps:=1000000) [Ca,Dh,D8,D6,Dm,D9,Dn,Cv,Cs,D7,Dl,Gi,-List.getD_eq_getElem?_getD,-List.map_map,aoP,f39,ACode.hd,ACode.tl,g0,g3,p2,a',b,eq_false c,eq_false d,Sl,li]⟩
  ·exact⟨_,q+1, .inl rfl,by omega,by omega,by simp(maxSteps:=1000000) [Ca,Dh,D8,D6,Dm,D9,Dn,Cv,Cs,D7,Dl,Gi,-List.getD_eq_getElem?_getD,-List.map_map,aoP,f39,ACode.hd,ACode.tl,g0,g3,p2,a',eq_false b,Sl]⟩
 ·have a': ¬ (ts.length:Int)+1=3:=by omega
  exact⟨_,q, .inl rfl,by omega,by omega,by simp(maxSteps:=1000000) [Ca,Dh,D8,D6,Dm,D9,Dn,Cv,Cs,D7,Dl,Gi,-List.getD_eq_getElem?_getD,-List.map_map,aoP,f39,ACode.hd,ACode.tl,g0,g3,eq_false a',Sl]⟩
def Bgt (ts:List Bq):Prop:=∀x∈ts,x.length≤40
def AoE (H:Hp) (r:Nat) (bs:List Int) (q:Int) (o:Out) (e:Env) (X:Hp):Prop:=
 o= .ret∧∃ (us:List Bq) (q':Int),fzV (Be H) X (e.get 2)=some (.d (Bf us))∧C8 X (Be H)=Bw H r (rd bs q')∧q≤q'∧q'≤q+2∧us.length≤14∧Bgt us
theorem Bzz (H:Hp) (r:Nat) (bs:List Int) (q:Int) (t0:Bq) (ts:List Bq) (hr:r<Be H) (hb:Dg bs) (h0:0≤q) (h1:q≤1000000000) (h8:ts.length≤7) (hs:Bgt (t0::ts)) (n1:Nat) (hn:n1=ts.length+1∨(n1=1∧ts.length=2)) (env:Env) (g0:env.get 0= .ptr r 0 0 0) (g3:env.get 3= .slc (Be H) 0 0 n1):
  Gives (AoE H r bs q) (Bp (ev R) R.glob (Be H) Bg aoS ⟨env,rh H r bs q [Sl 0 (t0::ts)]⟩):=by
 have p24:=fun l=>La (H:=H) (l:=l) (r:=r) (bs:=bs) (q:=q) 24 hr hb h0 (by omega)
 have n0:0<n1:=by omega
 have n0': (0:Int)< (n1:Int):=by omega
 have nl:n1≤ts.length+1:=by omega
 have tk: ∀ (us:List Bq) (k:Nat),Bgt us→Bgt (us.take k):=fun us k h x hx=>h x (List.mem_of_mem_take hx)
 have fv: ∀X g k,fzV (Be H) X (.slc (Be H) g 0 k)=Td (Be H) X (.slc (Be H) g 0 k):=fun _ _ _=>rfl
 by_cases c0:Cy bs q 24=0
 ·have pk:=fun l=>La (H:=H) (l:=l) (r:=r) (bs:=bs) (q:=q+1) n1 hr hb (by omega) (by omega)
  obtain⟨k0,k1⟩:=Jj bs (q+1) n1 hb (by omega) (by omega)
  have k1:=k1 (by omega)
  generalize Cy bs (q+1) n1=z at*
  obtain⟨k,rfl⟩:=Int.eq_ofNat_of_zero_le k0
  have kl: (k:Int)≤(n1:Int):=by omega
  have kl':k≤n1:=by omega
  have f:=Bas (H:=H) (r:=r) (bs:=bs) (q:=q+1+1) 0 (t0::ts) k (by simp;omega)
  simp(maxSteps:=1000000) [Ca,Dh,D8,D6,Dm,D9,Dn,Cv,Cs,D7,Dl,Gi,-List.getD_eq_getElem?_getD,-List.map_map,aoS,f39,ACode.tl,g0,g3,p24,c0,pk,kl,kl',k0,Sl]
  exact⟨rfl,(t0::ts).take k,q+1+1,f,by exact Cv ..,by omega,by omega,by simp;omega,tk _ _ hs⟩
 by_cases c1:Cy bs q 24=1
 ·have rm: (n1+6)*16≤Cq:=by unfold Cq;omega
  have hm:Bgt ((t0::ts).take n1++[[109,111,114,101],[109,111,114,101],[109,111,114,101],[109,111,114,101],[109,111,114,101],[109,111,114,101]]):=fun x hx=>by
   rcases List.mem_append.1 hx with hx|hx
   ·exact tk _ n1 hs x hx
   ·simp only[List.mem_cons,List.not_mem_nil,or_false,or_self] at hx;rw[hx];simp
  have f:=Bas (H:=H) (r:=r) (bs:=bs) (q:=q+1) 1 ((t0::ts).take n1++[[109,111,114,101],[109,111,114,101],[109,111,114,101],[109,111,114,101],[109,111,114,101],[109,111,114,101]]) (n1+6) (by simp;omega)
  have ft: ((t0::ts).take n1++[[109,111,114,101],[109,111,114,101],[109,111,114,101],[109,111,114,101],[109,111,114,101],[109,111,114,101]]:List Bq).take (n1+6)=(t0::ts).take n1++[[109,111,114,101],[109,111,114,101],[109,111,114,101],[109,111,114,101],[109,111,114,101],[109,111,114,101]]:=List.take_of_length_le (by simp;omega)
  rw[ft] at f
  rcases hn with rfl| ⟨rfl,h3⟩
  ·rw[List.take_of_length_le (show(t0::ts).length≤ts.length+1 by simp)] at f hm
   simp(maxSteps:=1000000) [Ca,Dh,D8,D6,Dm,D9,Dn,Cv,Cs,D7,Dl,Gi,-List.getD_eq_getElem?_getD,-List.map_map,aoS,f39,ACode.tl,g0,g3,p24,c1,rm,Sl]
   exact⟨rfl,_,q+1,by show Td (Be H) _ (V.slc (Be H) 1 0 _)=_;simpa[Sl] using f,by exact Cv ..,by omega,by omega,by simp;omega,hm⟩
  ·simp(maxSteps:=1000000) [Ca,Dh,D8,D6,Dm,D9,Dn,Cv,Cs,D7,Dl,Gi,-List.getD_eq_getElem?_getD,-List.map_map,aoS,f39,ACode.tl,g0,g3,p24,c1,rm,Sl,h3]
   exact⟨rfl,_,q+1,by show Td (Be H) _ (V.slc (Be H) 1 0 _)=_;simpa[Sl] using f,by exact Cv ..,by omega,by omega,by simp,hm⟩
 by_cases c2:Cy bs q 24=2
 ·have o1:=fun l=>Bnr (H:=H) (l:=l) (r:=r) (bs:=bs) (q:=q+1) [[103,101,116],[70,76,85,83,72],[]] hr hb (by omega) (by omega) (by simp)
  have ol:=Ui bs (q+1) [[103,101,116],[70,76,85,83,72],[]] 40 (by simp)
  generalize ofV bs (q+1) [[103,101,116],[70,76,85,83,72],[]]=t at*
  simp only[Bf,List.map_cons,List.map_nil] at o1
  have f:=Bas (H:=H) (r:=r) (bs:=bs) (q:=q+1+1) 0 (t::ts) n1 (by simp;omega)
  have hs':Bgt (t::ts):=fun x hx=>by
   rcases List.mem_cons.1 hx with rfl|hx
   ·exact ol
   ·exact hs x (by simp[hx])
  simp(maxSteps:=1000000) [Ca,Dh,D8,D6,Dm,D9,Dn,Cv,Cs,D7,Dl,Gi,-List.getD_eq_getElem?_getD,-List.map_map,aoS,f39,ACode.tl,g0,g3,p24,c2,o1,n0,n0',Sl]
  exact⟨rfl,(t::ts).take n1,q+1+1,f,by exact Cv ..,by omega,by omega,by simp;omega,tk _ _ hs'⟩
 by_cases c3:Cy bs q 24=3
 ·have o1:=fun l=>Bnr (H:=H) (l:=l) (r:=r) (bs:=bs) (q:=q+1) [[68,66,83,73,90,69],[70,76,85,83,72]] hr hb (by omega) (by omega) (by simp)
  have ol:=Ui bs (q+1) [[68,66,83,73,90,69],[70,76,85,83,72]] 40 (by simp)
  generalize ofV bs (q+1) [[68,66,83,73,90,69],[70,76,85,83,72]]=t at*
  simp only[Bf,List.map_cons,List.map_nil] at o1
  simp(maxSteps:=1000000) [Ca,Dh,D8,D6,Dm,D9,Dn,Cv,Cs,D7,Dl,Gi,-List.getD_eq_getElem?_getD,-List.map_map,aoS,f39,ACode.tl,g0,g3,p24,c3,o1,Sl]
  exact⟨rfl,[t],q+1+1,rfl,by exact Cv ..,by omega,by omega,by simp,fun x hx=>by rw[List.mem_singleton.1 hx];exact ol⟩
 ·have f:=Bas (H:=H) (r:=r) (bs:=bs) (q:=q+1) 0 (t0::ts) n1 (by simp;omega)
  simp(maxSteps:=1000000) [Ca,Dh,D8,D6,Dm,D9,Dn,Cv,Cs,D7,Dl,Gi,-List.getD_eq_getElem?_getD,-List.map_map,aoS,f39,ACode.tl,g0,g3,p24,eq_false c0,eq_false c1,eq_false c2,eq_false c3,Sl]
  exact⟨rfl,(t0::ts).take n1,q+1,f,by exact Cv ..,by omega,by omega,by simp;omega,tk _ _ hs⟩
theorem B7f (H:Hp) (r:Nat) (bs:List Int) (p:Int) (h:Ce H r=some (rd bs p)) (hb:Dg bs) (hp:0≤p) (hp2:p≤100000000):
  ∃ (us:List Bq) (q:Int),ev R 39 [.ptr r 0 0 0] H=some (.d (Bf us),Bw H r (rd bs q))∧p≤q∧q≤p+30∧us.length≤14∧Bgt us:=by
 have hr:=Ff h
 have hH:=Blr H r bs h
 obtain⟨ts,q,e1,a1,a2,l1,l8,hs⟩:=Bir (l:=[]) hr hb hp (show p≤1000000000 by omega)
 cases ts with
 |nil=>simp at l1
 |cons t0 ts=>
  simp only[List.length_cons,List.length_nil,Nat.add_zero,List.nil_append] at e1 l8
  obtain⟨n1,q1,hn,b1,b2,hP⟩:=Bzy H r bs q t0 ts hr hb (by omega) (by omega) [(0, .ptr r 0 0 0),(3, .slc (Be H) 0 0 (ts.length+1))] rfl rfl
  obtain⟨o,e',X',hp',rfl,rfl,g0,g3⟩:=hP.out
  obtain⟨o,e2,X2,hS,rfl,us,q2,f1,f2,b3,b4,ul,us40⟩:=(Bzz H r bs q1 t0 ts hr hb (by omega) (by omega) (by omega) hs n1 hn [(0, .ptr r 0 0 0),(3, .slc (Be H) 0 0 n1)] rfl rfl).out
  refine⟨us,q2, ?_,by omega,by omega,ul,us40⟩
  conv=>lhs;rw[hH]
  refine Bh (fn:=f39) rfl rfl ?_
  rw[Bz0]
  unfold Sl at hp' hS
  simp only[List.map_cons] at hp' hS e1
  simp(maxSteps:=1000000) [Ca,Dh,D8,D6,Dm,D9,Dn,Cv,Cs,D7,Dl,Gi,-List.getD_eq_getElem?_getD,-List.map_map,f39,ACode.hd,ACode.tl,ACode.lv,e1,hp',g0,g3,hS, ↓f1, ↓f2]
end Go.Proofs.YtpajcoanfkeibaaGreatDoor.Code
