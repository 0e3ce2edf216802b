/- Lemmas (several texts in one). -/
import Derived.Test.YtpajcoanfkeibaaGreatDoorMDoKind6
import Derived.Test.YtpajcoanfkeibaaGreatDoorMDoKind7
import Derived.Test.YtpajcoanfkeibaaGreatDoorMDoKind8
import Derived.Test.YtpajcoanfkeibaaGreatDoorMDoKind10
import Derived.Test.YtpajcoanfkeibaaGreatDoorMDoKind11
import Derived.Test.YtpajcoanfkeibaaGreatDoorMDoKind17
import Derived.Test.YtpajcoanfkeibaaGreatDoorMDoKind21
import Derived.Test.YtpajcoanfkeibaaGreatDoorMDoKind22
import Derived.KernelRfl
set_option maxRecDepth 100000
set_option maxHeartbeats 4000000
set_option linter.unusedSimpArgs false
set_option linter.unusedVariables false
open List renaming getD_eq_getElem?_getD → Cda, map_map → Cdb, mem_cons → Cdj
open Bool renaming false_eq_true → Cdw, and_eq_true → Cdv
namespace Go.Proofs.YtpajcoanfkeibaaGreatDoor.Code
open Go Go.Ev Go.Proofs
theorem Buk {α:Type} (p:α→Bool): ∀ (xs:List α),(∀x∈xs,p x=true)→xs.takeWhile p=xs
 | [],_=>rfl
 |x::r,h=>by rw[List.takeWhile_cons,if_pos (h x (by simp)),Buk p r fun y hy=>h y (by simp[hy])]
theorem Brp: ∀ (es:List En) (t:Br),(es.Pairwise fun a c=>Op.bytesLess a.key c.key=true)→(G6 es t=true→nAt es t=Jt es t∧nAt es t<es.length)∧(G6 es t=false→¬nAt es t<es.length)
 | [],t,_=>by simp[G6,nAt]
 |x::r,t,h=>by
  have ih:=Brp r t (List.Pairwise.of_cons h)
  unfold G6 nAt Jt at*
  rw[List.takeWhile_cons,List.takeWhile_cons]
  by_cases h1:x.key=t
  ·subst h1
   simp[Mv]
  ·cases h2:Op.bytesLess x.key t with
   |true=>simpa[h1,h2] using ih
   |false=>
    have h3:=Bkz h2 h1
    have h4: ∀y∈r,¬y.key=t:=fun y hy he=>by
     have:=Rt h3 (List.rel_of_pairwise_cons h hy)
     rw[he,Mv] at this
     simp at this
    have h5: (r.takeWhile fun e=> !decide (e.key=t))=r:=Buk _ r fun y hy=>by simp[h4 y hy]
    simp[h1,h2,h5]
theorem Bfb {b:Ba} (h:BaO b) (t:Br):aV b.ents t=if G6 b.ents t=true then(Jt b.ents t:Int) else -1:=by
 have:=Brp b.ents t h.asc
 unfold aV
 cases hk:G6 b.ents t with
 |true=>obtain⟨h1,h2⟩:=this.1 hk;rw[if_pos h2,if_pos rfl,h1]
 |false=>rw[if_neg (this.2 hk),if_neg (by simp)]
def Ut:En:=⟨[],0,0,[],[],[],[]⟩
def Bg5 (b:Ba) (t:Br):En×Bool:=if K4 b=true∧G6 b.ents t=true then(Bz b t,true) else(Ut,false)
theorem p_8 (b:Ba) (t:Br) (hb:BaSm b) (hf:BaFit b):Be (ev R) 8 [.d (Df b), .d (.str t)]=some (.tup [.d (Jn (Bg5 b t).1), .d (.bool (Bg5 b t).2)]):=Bb fun H=>by
 refine Bh (fn:=f8) rfl rfl ?_
 have p1:=Bxs b t hb.len
 have p2:=B60 b hf
 unfold Bg5
 cases hk:K4 b with
 |false=>
  rw[hk] at p2
  simp[Cg,-Cda,-Cdb,f8,p1,p2,Ut]
 |true=>
  rw[hk] at p2
  have hO:=(Q8 b).1 hk
  rw[Bfb hO] at p1
  unfold Bz
  cases h:G6 b.ents t with
  |false=>
   rw[h] at p1
   simp[Cg,-Cda,-Cdb,f8,p1,p2,Ut]
  |true=>
   rw[h] at p1
   have hl:=Ls h
   have c: (Jt b.ents t:Int)< (b.ents.length:Int):=by omega
   have c0: (0:Int)≤(Jt b.ents t:Int):=by omega
   have c1: ¬ (Jt b.ents t:Int)<0:=by omega
   have g:=Gt b.ents (Jt b.ents t) hl
   have p3:=B61 (b.ents.getD (Jt b.ents t) default) (hb.each _ (Jc hl))
   simp[Cg,-Cda,-Cdb,f8,p1,p2,p3,hl,c,c0,c1,g]
theorem p_9 (b:Ba) (t:Br) (hb:BaSm b) (hf:BaFit b):Be (ev R) 9 [.d (Df b), .d (.str t)]=some (.tup [.d (Jn (Bg5 b t).1), .d (.bool (Bg5 b t).2)]):=Bb fun H=>by
 refine Bh (fn:=f9) rfl rfl ?_
 have p1:=Bpn b t hb.len
 have p2:=B1d b hf
 have p3:=Gv b t hb
 unfold Bg5
 cases hk:K4 b with
 |false=>
  rw[hk] at p2
  simp[Cg,-Cda,-Cdb,f9,p1,p2,Ut]
 |true=>
  rw[hk] at p2
  cases h:G6 b.ents t with
  |false=>rw[h] at p1;simp[Cg,-Cda,-Cdb,f9,p1,p2,p3,Ut]
  |true=>rw[h] at p1;simp[Cg,-Cda,-Cdb,f9,p1,p2,p3]
def Zw (s:Br):Re:= .mk 1 0 s [] []
def Le (n:Int):Re:= .mk 2 n [] [] []
def Zx (s:Br):Re:= .mk 3 0 s [] []
theorem Caj (s:Br):Be (ev R) 32 [.d (.str s)]=some (.d (Qy (Zw s))):=Bb fun H=>by
 refine Bh (fn:=f32) rfl rfl ?_
 simp[Cg,-Cda,-Cdb,f32,Zw]
theorem Btc (n:Int):Be (ev R) 78 [.d (.int .i64 n)]=some (.d (Qy (Le n))):=Bb fun H=>by
 refine Bh (fn:=f78) rfl rfl ?_
 simp[Cg,-Cda,-Cdb,f78,Le]
theorem Cau (s:Br):Be (ev R) 84 [.d (.str s)]=some (.d (Qy (Zx s))):=Bb fun H=>by
 refine Bh (fn:=f84) rfl rfl ?_
 simp[Cg,-Cda,-Cdb,f84,Zx]
def dC (b:Ba) (a:D) (nu:V) (z:Bool) (e:En):List V:=[.d (.int .i64 b.now), .d (La b.ents), .d a,nu, .d (.str e.key), .d (.int .i64 e.till), .d (.int .i64 e.kind), .d (.str e.text),(bif z then .nils 1 else .d (Bf e.list)),(bif z then .nils 2 else .d (De e.scores)),(bif z then .nils 2 else .d (D7 e.fields))]
def dD (b:Ba) (a nu:D) (e:En):D:= .rptr [.int .i64 b.now,La b.ents,a,nu, .str e.key, .int .i64 e.till, .int .i64 e.kind, .str e.text,Bf e.list,De e.scores,D7 e.fields]
def dO (b:Ba) (a:D) (nu:V) (z:Bool) (e:En):Ev.Obj:= .row 0 11 [.agg (dC b a nu z e)]
def zOk (z:Bool) (e:En):Prop:=z=true→e.list=[]∧e.scores=[]∧e.fields=[]
theorem Cat (b:Ba) (w t:Br) (r:List D) (nu:D) (e:En) (hb:b.ents.length≤1000000):Be (ev R) 76 [.d (dD b (.vals 1 (.str w:: .str t::r)) nu e)]=some (.d (.bool (decide (0≤aV b.ents t)))):=Bb fun H=>by
 refine Bh (fn:=f76) rfl rfl ?_
 have p:=Bxs b t hb
 have q: (1:Int)< (r.length:Int)+1+1:=by omega
 simp(maxSteps:=1000000) [Ci,-Cda,-Cdb,f76,p,dD,q]
def eDo (b:Ba) (t:Br) (k:Int):En:=if G6 b.ents t=true then Bz b t else⟨t,0,k,[],[],[],[]⟩
theorem Bhf (b:Ba) (t:Br) (k:Int):zOk (!G6 b.ents t) (eDo b t k):=by
 intro h
 unfold eDo
 rw[Bool.not_eq_true'] at h
 simp[h]
def Bwh (c:Nat) (o:Ev.Obj) (b':Ba) (rp:Re):Prop:=∃cs:List V,∀X r,r<Bc X→ev R c [.ptr r 0 0 0] (oh X r o [])=some (.d (Qy rp),Bw X r (.row 0 11 [.agg (.d (.int .i64 b'.now):: .d (La b'.ents)::cs)]))
theorem Bon {c:Nat} {o:Ev.Obj} {b':Ba} {rp:Re} (hc:Bwh c o b' rp) (H:Hp): ∃cs:List V,∀ (i:Nat) (l:Hp),Cc l i=some o→ev R c [.ptr (Bc H+i) 0 0 0] (ap H l)=some (.d (Qy rp),ap H (Bw l i (.row 0 11 [.agg (.d (.int .i64 b'.now):: .d (La b'.ents)::cs)]))):=by
 obtain⟨cs,hc⟩:=hc
 refine⟨cs,fun i l h=> ?_⟩
 have h1:Cc (ap H l) (Bc H+i)=some o:=by rw[Qa,h]
 have h2:=hc (ap H l) (Bc H+i) (Fu h1)
 rw[←B09 _ _ _ h1] at h2
 rw[h2,Q7]
theorem B78 {b:Ba} {W t:Br} {k:Int} {c:Nat} {rp:Re} {b':Ba} (hW:Ev.Bdf (.str W) Rj Rk=some (some (Dp [75] k (.fn (.func c) [])))) (hO:BaO b) (ht:1≤t.length∧t.length≤12) (hk:k=0∨G6 b.ents t=false∨(Bz b t).kind=k)
  (hc:Bwh c (dO b (.vals 1 [.str W, .str t]) (.nils 1) (!G6 b.ents t) (eDo b t k)) b' rp):
  Be (ev R) 33 [.d (Df b), .d (.vals 1 [.str W, .str t])]=some (.tup [.d (Df b'), .d (Qy rp)]):=Bb fun H=>by
 refine Bh (fn:=f33) rfl rfl ?_
 have hb:=hO.g.sm
 have hf:=hO.g.fit
 have p0:=B68
 have p1:=Bzu k (.fn (.func c) []) W t
 have p2:=B3w k (.fn (.func c) [])
 have p3:Be (ev R) 57 [.d (.str t)]=some (.d (.bool (Gm t))):=Bb (cl:=ev R) fun H=>Bfj H t
 have hkv:Gm t=true:=by unfold Gm;simp;omega
 rw[hkv] at p3
 have p4:=Bxs b t hb.len
 have p5:=B1g b hb
 have p5n:=Btb b hb
 have p6:=p_8 b t hb hf
 obtain⟨cs,hc'⟩:=Bon hc H
 unfold Bg5 at p6
 rw[Bfb hO] at p4
 rw[(Q8 b).2 hO] at p6
 simp only[Dp,dO,dC] at hW hc'
 unfold eDo at hc'
 cases h:G6 b.ents t with
 |false=>
  rw[h] at p4 p6 hc'
  simp only[Cdw,if_false,and_false,Bool.not_false,cond_true] at p4 p6 hc'
  simp(maxSteps:=1000000) [Ci,-Cda,-Cdb,f33,p0,p1,p2,p3,p4,p5,p5n,p6,hW,hc',wl1,wl2,wl3]
  rw[Bv]
  generalize hFl10:Bg (Bq (ev R) R.glob (Bc H) Bg Pf) [1,2,4,5,6,8]=Fl10
  simp(maxSteps:=1000000) [Ci,-Cda,-Cdb,Pf,p0,p1,p2,p3,p4,p5,p5n,p6,hW,hc',wl1,wl2,wl3]
  rw[←hFl10,Bv]
  generalize hFl11:Bg (Bq (ev R) R.glob (Bc H) Bg Pf) [1,2,4,5,6,8]=Fl11
  simp(maxSteps:=1000000) [Ci,-Cda,-Cdb,Pf,p0,p1,p2,p3,p4,p5,p5n,p6,hW,hc',wl1,wl2,wl3]
  rw[Bv]
  generalize hFl00:Bg (Bq (ev R) R.glob (Bc H) Bg Qr) [1,2,4,5,6,10,11]=Fl00
  simp(maxSteps:=1000000) [Ci,-Cda,-Cdb,Qr,p0,p1,p2,p3,p4,p5,p5n,p6,hW,hc',wl1,wl2,wl3]
  rw[←hFl00,Bv]
  generalize hFl01:Bg (Bq (ev R) R.glob (Bc H) Bg Qr) [1,2,4,5,6,10,11]=Fl01
  simp(maxSteps:=1000000) [Ci,-Cda,-Cdb,Qr,p0,p1,p2,p3,p4,p5,p5n,p6,hW,hc',wl1,wl2,wl3]
 |true=>
  rw[h] at p4 p6 hc'
  simp only[if_true,and_true,Bool.not_true,cond_false] at p4 p6 hc'
  have hl:=Ls h
  have c1: ¬ (Jt b.ents t:Int)<0:=by omega
  have c2: (Jt b.ents t:Int)≥0:=by omega
  have g:=Gt b.ents (Jt b.ents t) hl
  have hg:b.ents.getD (Jt b.ents t) default=Bz b t:=by unfold Bz;rw[if_pos h]
  rw[hg] at g
  by_cases hz:k=0
  ·subst hz
   simp(maxSteps:=1000000) [Ci,-Cda,-Cdb,f33,p0,p1,p2,p3,p4,p5,p5n,p6,hW,hc',wl1,wl2,wl3,hl,c1,c2,g]
   rw[Bv]
   generalize hFl10:Bg (Bq (ev R) R.glob (Bc H) Bg Pf) [1,2,4,5,6,8]=Fl10
   simp(maxSteps:=1000000) [Ci,-Cda,-Cdb,Pf,p0,p1,p2,p3,p4,p5,p5n,p6,hW,hc',wl1,wl2,wl3,hl,c1,c2,g]
   rw[←hFl10,Bv]
   generalize hFl11:Bg (Bq (ev R) R.glob (Bc H) Bg Pf) [1,2,4,5,6,8]=Fl11
   simp(maxSteps:=1000000) [Ci,-Cda,-Cdb,Pf,p0,p1,p2,p3,p4,p5,p5n,p6,hW,hc',wl1,wl2,wl3,hl,c1,c2,g]
   rw[Bv]
   generalize hFl00:Bg (Bq (ev R) R.glob (Bc H) Bg Qr) [1,2,4,5,6,10,11]=Fl00
   simp(maxSteps:=1000000) [Ci,-Cda,-Cdb,Qr,p0,p1,p2,p3,p4,p5,p5n,p6,hW,hc',wl1,wl2,wl3,hl,c1,c2,g]
   rw[←hFl00,Bv]
   generalize hFl01:Bg (Bq (ev R) R.glob (Bc H) Bg Qr) [1,2,4,5,6,10,11]=Fl01
   simp(maxSteps:=1000000) [Ci,-Cda,-Cdb,Qr,p0,p1,p2,p3,p4,p5,p5n,p6,hW,hc',wl1,wl2,wl3,hl,c1,c2,g]
  ·have hk: (Bz b t).kind=k:=by
    rcases hk with hk|hk|hk
    ·exact absurd hk hz
    ·rw[h] at hk;simp at hk
    ·exact hk
   simp(maxSteps:=1000000) [Ci,-Cda,-Cdb,f33,p0,p1,p2,p3,p4,p5,p5n,p6,hW,hc',wl1,wl2,wl3,hl,c1,c2,g]
   rw[Bv]
   generalize hFl10:Bg (Bq (ev R) R.glob (Bc H) Bg Pf) [1,2,4,5,6,8]=Fl10
   simp(maxSteps:=1000000) [Ci,-Cda,-Cdb,Pf,p0,p1,p2,p3,p4,p5,p5n,p6,hW,hc',wl1,wl2,wl3,hl,c1,c2,g,hk,hz]
   rw[←hFl10,Bv]
   generalize hFl11:Bg (Bq (ev R) R.glob (Bc H) Bg Pf) [1,2,4,5,6,8]=Fl11
   simp(maxSteps:=1000000) [Ci,-Cda,-Cdb,Pf,p0,p1,p2,p3,p4,p5,p5n,p6,hW,hc',wl1,wl2,wl3,hl,c1,c2,g,hk,hz]
   rw[Bv]
   generalize hFl00:Bg (Bq (ev R) R.glob (Bc H) Bg Qr) [1,2,4,5,6,10,11]=Fl00
   simp(maxSteps:=1000000) [Ci,-Cda,-Cdb,Qr,p0,p1,p2,p3,p4,p5,p5n,p6,hW,hc',wl1,wl2,wl3,hl,c1,c2,g]
   rw[←hFl00,Bv]
   generalize hFl01:Bg (Bq (ev R) R.glob (Bc H) Bg Qr) [1,2,4,5,6,10,11]=Fl01
   simp(maxSteps:=1000000) [Ci,-Cda,-Cdb,Qr,p0,p1,p2,p3,p4,p5,p5n,p6,hW,hc',wl1,wl2,wl3,hl,c1,c2,g]
theorem Bxo {xs:List Br} (h: ∀x∈xs,x.length≤40):Fv (J7 xs) xs.length 0=none:=by
 cases hr:Fv (J7 xs) xs.length 0 with
 |none=>rfl
 |some j=>
  have h2:=Q3 hr
  have h3:j<xs.length:=by omega
  have h4:=h2.2.2.1
  have h5:=h _ (Jc (d:=[]) h3)
  unfold J7 at h4
  simp only[decide_eq_true_eq] at h4
  omega
theorem Bxt (xs:List Br) (h1:1≤xs.length∧xs.length≤8) (h2: ∀x∈xs,x.length≤40):Be (ev R) 31 [.d (Bf xs)]=some (.d (.bool true)):=Bb fun H=>by
 have hx:xs.length≤9223372036854775807:=by omega
 have p:Be (ev R) 53 [.d (Bf xs), .d (.int .i64 8)]=some (.d (.bool true)):=Bb fun H=>by
  refine Bh (fn:=f53) rfl rfl ?_
  obtain⟨e',he,h1',h2'⟩:=B06 (Bc H) xs hx 8 H xs.length 0 [(0, .d (Bf xs)),(1, .d (.int .i64 8)),(7, .d (Bf xs)),(8, .d (.int .i64 xs.length)),(9, .d (.int .i64 0))] (by omega) rfl rfl rfl rfl rfl
  have hr:=Bxo h2
  simp only[hr] at he
  obtain⟨h3,h4⟩:=h2' hr
  have q: (xs.length:Int)≤8:=by omega
  simp[Cm,-Cda,-Cdb,f53,he,h3,h4,hr,Bf,q]
 have c: (0:Int)< (xs.length:Int):=by omega
 refine Bh (fn:=f31) rfl rfl ?_
 simp only[Bf] at p
 have c2:0<xs.length:=by omega
 simp[Cm,-Cda,-Cdb,f31,Bf,p,c,c2]
theorem B6e {b b':Ba} {rp:Re} {xs:List Br} (hO:BaO b) (hb':BaSm b') (h1:1≤xs.length∧xs.length≤8) (h2: ∀x∈xs,x.length≤40) (hr:rp.texts.length≤1000000) (hd:Be (ev R) 33 [.d (Df b), .d (Bf xs)]=some (.tup [.d (Df b'), .d (Qy rp)])):
  Be (ev R) 11 [.d (Df b), .d (Bf xs)]=some (.tup [.d (Df (if rp.kind=1 then b else b')), .d (Qy rp)]):=Bb fun H=>by
 refine Bh (fn:=f11) rfl rfl ?_
 have hb:=hO.g.sm
 have p1:=B60 b hO.g.fit
 rw[(Q8 b).2 hO] at p1
 have p2:=Bxt xs h1 h2
 have p3:=B1g b hb
 have p3n:=Btb b hb
 have p4:=B1g b' hb'
 have p4n:=Btb b' hb'
 have p5:=B65 rp.texts hr
 have p5n:=B0a rp.texts hr
 simp only[Bf] at p2 hd p5 p5n
 obtain⟨k,n,t,l,m⟩:=rp
 simp only[Re.kind,Re.texts] at hr p5 p5n⊢
 by_cases hk:k=1
 ·simp(maxSteps:=1000000) [Ci,-Cda,-Cdb,f11,p1,p2,p3,p3n,p4,p4n,p5,p5n,hd,hk,Bf,Y9,Wp,Bgj,Re.kind,Re.num,Re.text,Re.texts,Re.many]
 ·simp(maxSteps:=1000000) [Ci,-Cda,-Cdb,f11,p1,p2,p3,p3n,p4,p4n,p5,p5n,hd,hk,Bf,Y9,Wp,Bgj,Re.kind,Re.num,Re.text,Re.texts,Re.many]
def DoesO (c:Nat) (o o':Ev.Obj) (rp:Re):Prop:=∀X r,r<Bc X→ev R c [.ptr r 0 0 0] (oh X r o [])=some (.d (Qy rp),Bw X r o')
theorem DoesO.does {c:Nat} {o:Ev.Obj} {b':Ba} {a:D} {nu:V} {z:Bool} {e:En} {rp:Re} (h:DoesO c o (dO b' a nu z e) rp):Bwh c o b' rp:=⟨_,h⟩
theorem Bxi {H:Hp} {r:Nat} {b:Ba} {a:D} {z:Bool} {e:En} (hz:zOk z e) (h:Cc H r=some (dO b a (.nils 1) z e)):fz 0 Pb H (.ptr r 0 0 0)=some (dD b a (.vals 1 []) e):=by
 cases z with
 |false=>simp[C8,h,dO,dC,dD,fz,Pb,Gp,V.cells]
 |true=>
  obtain⟨h1,h2,h3⟩:=hz rfl
  simp[C8,h,dO,dC,dD,fz,Pb,Gp,V.cells,h1,h2,h3,De,D7]
section
variable {b:Ba} {nu:V} {z:Bool} {e:En} (a:D)
theorem Bww:DoesO 77 (dO b a nu z e) (dO b a nu z e) (Le e.text.length):=fun X r hr=>by
 refine Bh (fn:=f77) rfl rfl ?_
 have h0:=fun l=>Bel X l r (dO b a nu z e) hr
 have p:=fun n=>Btc n
 simp only[dO,dC] at*
 simp(maxSteps:=1000000) [Ci,Lv,Pj,Nf,Lu,Ng,Lx,L6,Kq,Nc,Lt,Tc,-Cda,-Cdb,f77,h0,p,Le]
theorem Bwx (hz:zOk z e):DoesO 90 (dO b a nu z e) (dO b a nu z e) (Le e.list.length):=fun X r hr=>by
 refine Bh (fn:=f90) rfl rfl ?_
 have h0:=fun l=>Bel X l r (dO b a nu z e) hr
 have p:=fun n=>Btc n
 cases z with
 |false=>
  simp only[dO,dC,cond_false] at*
  simp(maxSteps:=1000000) [Ci,Lv,Pj,Nf,Lu,Ng,Lx,L6,Kq,Nc,Lt,Tc,-Cda,-Cdb,f90,h0,p,Le,Bf,De,D7]
 |true=>
  obtain⟨h1,h2,h3⟩:=hz rfl
  simp only[dO,dC,cond_true] at*
  simp(maxSteps:=1000000) [Ci,Lv,Pj,Nf,Lu,Ng,Lx,L6,Kq,Nc,Lt,Tc,-Cda,-Cdb,f90,h0,p,Le,h1,h2,h3]
theorem Br3 (hz:zOk z e):DoesO 105 (dO b a nu z e) (dO b a nu z e) (Le e.list.length):=fun X r hr=>by
 refine Bh (fn:=f105) rfl rfl ?_
 have h0:=fun l=>Bel X l r (dO b a nu z e) hr
 have p:=fun n=>Btc n
 cases z with
 |false=>
  simp only[dO,dC,cond_false] at*
  simp(maxSteps:=1000000) [Ci,Lv,Pj,Nf,Lu,Ng,Lx,L6,Kq,Nc,Lt,Tc,-Cda,-Cdb,f105,h0,p,Le,Bf,De,D7]
 |true=>
  obtain⟨h1,h2,h3⟩:=hz rfl
  simp only[dO,dC,cond_true] at*
  simp(maxSteps:=1000000) [Ci,Lv,Pj,Nf,Lu,Ng,Lx,L6,Kq,Nc,Lt,Tc,-Cda,-Cdb,f105,h0,p,Le,h1,h2,h3]
theorem Br4 (hz:zOk z e):DoesO 125 (dO b a nu z e) (dO b a nu z e) (Le e.scores.length):=fun X r hr=>by
 refine Bh (fn:=f125) rfl rfl ?_
 have h0:=fun l=>Bel X l r (dO b a nu z e) hr
 have p:=fun n=>Btc n
 cases z with
 |false=>
  simp only[dO,dC,cond_false] at*
  simp(maxSteps:=1000000) [Ci,Lv,Pj,Nf,Lu,Ng,Lx,L6,Kq,Nc,Lt,Tc,-Cda,-Cdb,f125,h0,p,Le,Bf,De,D7]
 |true=>
  obtain⟨h1,h2,h3⟩:=hz rfl
  simp only[dO,dC,cond_true] at*
  simp(maxSteps:=1000000) [Ci,Lv,Pj,Nf,Lu,Ng,Lx,L6,Kq,Nc,Lt,Tc,-Cda,-Cdb,f125,h0,p,Le,h1,h2,h3]
theorem Br5 (hz:zOk z e):DoesO 141 (dO b a nu z e) (dO b a nu z e) (Le e.fields.length):=fun X r hr=>by
 refine Bh (fn:=f141) rfl rfl ?_
 have h0:=fun l=>Bel X l r (dO b a nu z e) hr
 have p:=fun n=>Btc n
 cases z with
 |false=>
  simp only[dO,dC,cond_false] at*
  simp(maxSteps:=1000000) [Ci,Lv,Pj,Nf,Lu,Ng,Lx,L6,Kq,Nc,Lt,Tc,-Cda,-Cdb,f141,h0,p,Le,Bf,De,D7]
 |true=>
  obtain⟨h1,h2,h3⟩:=hz rfl
  simp only[dO,dC,cond_true] at*
  simp(maxSteps:=1000000) [Ci,Lv,Pj,Nf,Lu,Ng,Lx,L6,Kq,Nc,Lt,Tc,-Cda,-Cdb,f141,h0,p,Le,h1,h2,h3]
end
theorem Bei {es:List En} (h:es.Pairwise fun a c=>Op.bytesLess a.key c.key=true) (t:Br): (∀x∈es.take (Jt es t),Op.bytesLess x.key t=true)∧∀x∈es.drop (Jt es t),Op.bytesLess x.key t=false:=by
 induction es with
 |nil=>simp
 |cons x r ih=>
  have ih:=ih (List.Pairwise.of_cons h)
  unfold Jt at*
  rw[List.takeWhile_cons]
  cases h1:Op.bytesLess x.key t with
  |true=>
   simp only[if_true,List.length_cons,List.take_succ_cons,List.drop_succ_cons]
   refine⟨fun y hy=> ?_,ih.2⟩
   rcases Cdj.1 hy with rfl|hy
   ·exact h1
   ·exact ih.1 y hy
  |false=>
   simp only[Cdw,if_false,List.length_nil,List.take_zero,List.drop_zero]
   refine⟨fun y hy=>by simp at hy,fun y hy=> ?_⟩
   rcases Cdj.1 hy with rfl|hy
   ·exact h1
   ·cases h2:Op.bytesLess y.key t with
    |false=>rfl
    |true=>rw[Rt (List.rel_of_pairwise_cons h hy) h2] at h1;simp at h1
theorem Bti {b:Ba} (h:BaO b) (t:Br):G6 (Ga b t).ents t=false:=by
 unfold Ga
 cases hk:G6 b.ents t with
 |false=>simpa using hk
 |true=>
  simp only[if_true]
  have hp:=Bei h.asc t
  have hl:=Ls hk
  have hd:b.ents.drop (Jt b.ents t)=b.ents.getD (Jt b.ents t) default::b.ents.drop (Jt b.ents t+1):=by
   rw[List.drop_eq_getElem_cons hl]
   simp[Cda,hl]
  have hkey: (b.ents.getD (Jt b.ents t) default).key=t:=by
   unfold G6 at hk
   rw[Cdv] at hk
   exact of_decide_eq_true hk.2
  have ha:=h.asc.sublist (List.drop_sublist (Jt b.ents t) b.ents)
  rw[hd] at ha
  cases hq:G6 (Ka b.ents (Jt b.ents t)) t with
  |false=>rfl
  |true=>
   have hl2:=Ls hq
   have hm: (Ka b.ents (Jt b.ents t)).getD (Jt (Ka b.ents (Jt b.ents t)) t) default∈Ka b.ents (Jt b.ents t):=Jc hl2
   unfold G6 at hq
   rw[Cdv] at hq
   have he:=of_decide_eq_true hq.2
   generalize(Ka b.ents (Jt b.ents t)).getD (Jt (Ka b.ents (Jt b.ents t)) t) default=y at*
   unfold Ka at hm
   rcases List.mem_append.1 hm with hm|hm
   ·have:=hp.1 y hm
    rw[he,Mv] at this
    simp at this
   ·have:=List.rel_of_pairwise_cons ha hm
    rw[hkey,he,Mv] at this
    simp at this
section
variable {b:Ba} {nu:V} {z:Bool} {e:En}
end
def We:List Br:=[[110,111,110,101],[115,116,114,105,110,103],[108,105,115,116],[115,101,116],[122,115,101,116],[104,97,115,104]]
section
variable {b:Ba} {nu:V} {z:Bool} {e:En}
theorem Br6 {w t:Br} {q:List D} (hz:zOk z e) (hb:b.ents.length≤1000000) (hk:0≤e.kind∧e.kind<6):DoesO 144 (dO b (.vals 1 (.str w:: .str t::q)) (.nils 1) z e) (dO b (.vals 1 (.str w:: .str t::q)) (.nils 1) z e) (Zx (if 0≤aV b.ents t then We.getD e.kind.toNat [] else[110,111,110,101])):=fun X r hr=>by
 refine Bh (fn:=f144) rfl rfl ?_
 have h0:=fun l=>Bel X l r (dO b (.vals 1 (.str w:: .str t::q)) (.nils 1) z e) hr
 have hv:=fun l=>Bxi hz (h0 l)
 have p1:=Cat b w t q (.vals 1 []) e hb
 have p2:=fun s=>Cau s
 obtain⟨n,hn⟩: ∃n:Nat,e.kind=n:=⟨e.kind.toNat,by omega⟩
 have g: ([.str [110,111,110,101], .str [115,116,114,105,110,103], .str [108,105,115,116], .str [115,101,116], .str [122,115,101,116], .str [104,97,115,104]]:List D).getD n .nilp= .str (We.getD n []):=by
  have h6:n<6:=by omega
  match n,h6 with
  |0,_=>rfl
  |1,_=>rfl
  |2,_=>rfl
  |3,_=>rfl
  |4,_=>rfl
  |5,_=>rfl
 have c0: (0:Int)≤(n:Int):=by omega
 have c1: (n:Int)<6:=by omega
 have c2:n<6:=by omega
 have hG:R.glob 0=some [Ue]:=rfl
 rw[hn,Int.toNat_natCast]
 generalize We.getD n []=T at*
 simp only[dO,dC] at*
 rw[hn] at h0 hv
 by_cases ha:0≤aV b.ents t
 ·simp(maxSteps:=1000000) [Ci,Lv,Pj,Nf,Lu,Ng,Lx,L6,Kq,Nc,Lt,Tc,-Cda,-Cdb,f144,h0,hv,p1,p2,ha,hG,Ue,g,c0,c1,c2,hn]
 ·simp(maxSteps:=1000000) [Ci,Lv,Pj,Nf,Lu,Ng,Lx,L6,Kq,Nc,Lt,Tc,-Cda,-Cdb,f144,h0,hv,p1,p2,ha,hG,Ue,g,c0,c1,c2,hn]
end
def Buy:Br:=[84,89,80,69]
theorem Bzh:Ev.Bdf (.str Buy) Rj Rk=some (some (Dp [75] 0 (.fn (.func 144) []))):=by kernel_rfl
abbrev doV (b b':Ba) (rp:Re):V:= .tup [.d (Df (if rp.kind=1 then b else b')), .d (Qy rp)]
theorem sh2 {W t:Br} (hw:W.length≤40) (ht:1≤t.length∧t.length≤12): ∀x∈[W,t],x.length≤40:=by
 intro x hx
 simp only[Cdj,List.not_mem_nil,or_false] at hx
 rcases hx with rfl|rfl
 ·exact hw
 ·omega
theorem B2q {b:Ba} {W t:Br} {k:Int} {c:Nat} {rp:Re} {b':Ba} (hW:Ev.Bdf (.str W) Rj Rk=some (some (Dp [75] k (.fn (.func c) [])))) (hw:W.length≤40) (hO:BaO b) (ht:1≤t.length∧t.length≤12) (hk:k=0∨G6 b.ents t=false∨(Bz b t).kind=k) (hb':BaSm b') (hr:rp.texts.length≤1000000)
  (hc:Bwh c (dO b (.vals 1 [.str W, .str t]) (.nils 1) (!G6 b.ents t) (eDo b t k)) b' rp):Be (ev R) 11 [.d (Df b), .d (.vals 1 [.str W, .str t])]=some (doV b b' rp):=
 B6e (xs:=[W,t]) hO hb' (by simp) (sh2 hw ht) hr (B78 hW hO ht hk hc)
theorem Br7 {b:Ba} {t:Br} {k:Int} (h:G6 b.ents t=true):eDo b t k=Bz b t:=by unfold eDo;rw[if_pos h]
theorem B2t {b:Ba} (hO:BaO b) {t:Br} (h:G6 b.ents t=true):0≤aV b.ents t:=by rw[Bfb hO,if_pos h];omega
section
variable {b:Ba} {t:Br} (hO:BaO b) (ht:1≤t.length∧t.length≤12)
include hO ht
theorem Bwf (hk:G6 b.ents t=true) (h6:0≤(Bz b t).kind∧(Bz b t).kind<6):Be (ev R) 11 [.d (Df b), .d (.vals 1 [.str Buy, .str t])]=some (.tup [.d (Df b), .d (Qy (Zx (We.getD (Bz b t).kind.toNat [])))]):=by
 have h:=B2q (rp:=Zx (if 0≤aV b.ents t then We.getD (eDo b t 0).kind.toNat [] else[110,111,110,101])) Bzh (by decide) hO ht (.inl rfl) hO.g.sm (by simp[Zx,Re.texts]) ((Br6 (Bhf b t 0) hO.g.sm.len (by rw[Br7 hk];exact h6)).does)
 rw[if_pos (B2t hO hk),Br7 hk] at h
 rw[h];simp[Zx,Re.kind]
end
theorem Bwv {b:Ba} {W t:Br} {k:Int} {c:Nat} (hW:Ev.Bdf (.str W) Rj Rk=some (some (Dp [75] k (.fn (.func c) [])))) (hO:BaO b) (ht:1≤t.length∧t.length≤12) (h:G6 b.ents t=true) (hz: ¬k=0) (hk: ¬ (Bz b t).kind=k):
  Be (ev R) 33 [.d (Df b), .d (.vals 1 [.str W, .str t])]=some (.tup [.d (Df b), .d (Qy (Zw [107,105,110,100]))]):=Bb fun H=>by
 refine Bh (fn:=f33) rfl rfl ?_
 have hb:=hO.g.sm
 have p0:=B68
 have p1:=Bzu k (.fn (.func c) []) W t
 have p2:=B3w k (.fn (.func c) [])
 have p3:Be (ev R) 57 [.d (.str t)]=some (.d (.bool (Gm t))):=Bb (cl:=ev R) fun H=>Bfj H t
 have hkv:Gm t=true:=by unfold Gm;simp;omega
 rw[hkv] at p3
 have p4:=Bxs b t hb.len
 have p5:=Caj [107,105,110,100]
 rw[Bfb hO,if_pos h] at p4
 simp only[Dp] at hW
 have hl:=Ls h
 have c2: (Jt b.ents t:Int)≥0:=by omega
 have g:=Gt b.ents (Jt b.ents t) hl
 have hg:b.ents.getD (Jt b.ents t) default=Bz b t:=by unfold Bz;rw[if_pos h]
 rw[hg] at g
 simp(maxSteps:=1000000) [Ci,-Cda,-Cdb,f33,p0,p1,p2,p3,p4,p5,hW,hl,c2,g,hk,hz,wl1,wl2]
 rw[Bv]
 generalize hF:Bg (Bq (ev R) R.glob (Bc H) Bg Pf) [1,2,4,5,6,8]=F
 simp(maxSteps:=1000000) [Ci,-Cda,-Cdb,Pf,p0,p1,p2,p3,p4,p5,hW,hl,c2,g,hk,hz,wl1,wl2]
theorem Bwe {b:Ba} {W t:Br} {k:Int} {c:Nat} (hW:Ev.Bdf (.str W) Rj Rk=some (some (Dp [75] k (.fn (.func c) [])))) (hw:W.length≤40) (hO:BaO b) (ht:1≤t.length∧t.length≤12) (h:G6 b.ents t=true) (hz: ¬k=0) (hk: ¬ (Bz b t).kind=k):
  Be (ev R) 11 [.d (Df b), .d (.vals 1 [.str W, .str t])]=some (.tup [.d (Df b), .d (Qy (Zw [107,105,110,100]))]):=by
 have h1:=B6e (rp:=Zw [107,105,110,100]) (xs:=[W,t]) hO hO.g.sm (by simp) (sh2 hw ht) (by simp[Zw,Re.texts]) (Bwv hW hO ht h hz hk)
 have h2:Be (ev R) 11 [.d (Df b), .d (.vals 1 [.str W, .str t])]=_:=h1
 rw[h2];simp[Zw,Re.kind]
def Bsx (i:Nat):Br:=([[83,84,82,76,69,78],[76,76,69,78],[83,67,65,82,68],[90,67,65,82,68],[72,76,69,78]]:List Br).getD i []
theorem Bxm {e:En} (h:Gl e=true):1≤e.kind∧e.kind≤5:=by
 unfold Gl Mc at h
 simp only[Cdv] at h
 obtain⟨_,h⟩:=h
 split at h
 ·omega
 ·split at h
  ·omega
  ·split at h
   ·omega
   ·split at h
    ·omega
    ·split at h
     ·omega
     ·simp at h
theorem Bwg {b:Ba} {t:Br} (hO:BaO b) (ht:1≤t.length∧t.length≤12) (h:G6 b.ents t=true) (i:Nat) (hi:i<5):
  ∃rp:Re,Be (ev R) 11 [.d (Df b), .d (.vals 1 [.str (Bsx i), .str t])]=some (.tup [.d (Df b), .d (Qy rp)])∧rp.kind=if(Bz b t).kind=(i:Int)+1 then 2 else 1:=by
 have go: ∀ (W:Br) (k:Int) (c:Nat) (n:Nat),Ev.Bdf (.str W) Rj Rk=some (some (Dp [75] k (.fn (.func c) [])))→W.length≤40→¬k=0→DoesO c (dO b (.vals 1 [.str W, .str t]) (.nils 1) (!G6 b.ents t) (eDo b t k)) (dO b (.vals 1 [.str W, .str t]) (.nils 1) (!G6 b.ents t) (eDo b t k)) (Le n)→
   ∃rp:Re,Be (ev R) 11 [.d (Df b), .d (.vals 1 [.str W, .str t])]=some (.tup [.d (Df b), .d (Qy rp)])∧rp.kind=if(Bz b t).kind=k then 2 else 1:=by
  intro W k c n hW hw hz hd
  by_cases hk: (Bz b t).kind=k
  ·refine⟨Le n, ?_,by rw[if_pos hk];rfl⟩
   have h1:=B2q (rp:=Le n) hW hw hO ht (.inr (.inr hk)) hO.g.sm (by simp[Le,Re.texts]) hd.does
   rw[h1];simp[Le,Re.kind]
  ·exact⟨Zw [107,105,110,100],Bwe hW hw hO ht h hz hk,by rw[if_neg hk];rfl⟩
 match i,hi with
 |0,_=>exact go [83,84,82,76,69,78] 1 77 _ (by kernel_rfl) (by decide) (by omega) (Bww _)
 |1,_=>exact go [76,76,69,78] 2 90 _ (by kernel_rfl) (by decide) (by omega) (Bwx _ (Bhf b t 2))
 |2,_=>exact go [83,67,65,82,68] 3 105 _ (by kernel_rfl) (by decide) (by omega) (Br3 _ (Bhf b t 3))
 |3,_=>exact go [90,67,65,82,68] 4 125 _ (by kernel_rfl) (by decide) (by omega) (Br4 _ (Bhf b t 4))
 |4,_=>exact go [72,76,69,78] 5 141 _ (by kernel_rfl) (by decide) (by omega) (Br5 _ (Bhf b t 5))
end Go.Proofs.YtpajcoanfkeibaaGreatDoor.Code
