/- Lemmas (several texts in one). -/
import Derived.Test.YtpajcoanfkeibaaGreatDoorMDoRename6
import Derived.Test.YtpajcoanfkeibaaGreatDoorMDoRename7
import Derived.Test.YtpajcoanfkeibaaGreatDoorMDoRename8
import Derived.Test.YtpajcoanfkeibaaGreatDoorMDoRename10
import Derived.Test.YtpajcoanfkeibaaGreatDoorMDoRename11
import Derived.Test.YtpajcoanfkeibaaGreatDoorMDoRename17
import Derived.Test.YtpajcoanfkeibaaGreatDoorMDoRename21
import Derived.Test.YtpajcoanfkeibaaGreatDoorMDoRename22
set_option maxRecDepth 100000
set_option maxHeartbeats 4000000
set_option linter.unusedSimpArgs false
set_option linter.unusedVariables false
namespace Go.Proofs.YtpajcoanfkeibaaGreatDoor.Code
open Go Go.Ev Go.Proofs
def enZ:V:= .agg [.d (.str []), .d (.int .i64 0), .d (.int .i64 0), .d (.str []), .nils 1, .nils 2, .nils 2]
theorem B1o (H:Hp) (r:Nat) (xs:List V) (i:Nat) (hr:Cf H r=some (.row 0 7 xs)) (hd: ∀x∈xs,∃d,x= .d d) (hi:i<xs.length) (hx:xs.length≤1000000):
  ev R 36 [.slc r 0 0 xs.length, .d (.int .i64 i), .d (.int .i64 (i+1))] H=some (.slc r 0 0 (xs.length - 1),Bz H r (.row 0 7 (xs.take i++(xs.drop (i+1)++[enZ])))):=by
 have h1: ¬ (i:Int)=(i:Int)+1:=by omega
 have c1: (0:Int)≤(i:Int)+1:=by omega
 have c2: (i:Int)+1≤(xs.length:Int):=by omega
 have c3: (i:Int)≤(xs.length:Int):=by omega
 have c4:i≤xs.length:=by omega
 have c5:i+1≤xs.length:=by omega
 have c6: (i:Int)≤(i:Int)+1:=by omega
 have c7: ¬i=xs.length:=by omega
 have c8:xs.length - 1≤xs.length:=by omega
 have hm:i+(xs.length - (i+1))=xs.length - 1:=by omega
 have hs: ∀o,Cf (Bz H r o) r=some o:=fun o=>Co _ (D6 hr)
 have hok: ∀n0,(xs.drop (i+1)).all (Rt n0 r)=true:=fun n0=>List.all_eq_true.2 fun x hx=>by
  obtain⟨d,rfl⟩:=hd x (List.mem_of_mem_drop hx)
  rfl
 have c9: ((xs.length - 1:Nat):Int)≤(xs.length:Int):=by omega
 have d1:xs.length - (xs.length - 1)=1:=by omega
 have d2: (xs.length:Int)≤(i:Int)+(((xs.length - (i+1):Nat):Int)+1):=by omega
 have d3:xs.length - 1+1≤i+(xs.length - (i+1)+1):=by omega
 have d4:xs.length≤i+(xs.length - (i+1)+1):=by omega
 have d5:xs.length≤xs.length - 1+1:=by omega
 have hrl:=D6 hr
 have fz: ∀o,Ws (Bc H) (Bz H r o) (.slc r 0 0 (xs.length - 1))=some (.slc r 0 0 (xs.length - 1)):=fun o=>by simp[Ws,hrl]
 have htk: ∀o,Cx (Bz H r o) (Bc H)=Bz H r o:=fun o=>by
  have:=Jq (Bz H r o)
  rwa[Br] at this
 have l1:List.take (xs.length - 1) (List.take i xs++(List.drop (i+1) xs++List.drop (xs.length - 1) xs))=List.take i xs++List.drop (i+1) xs:=by
  rw[←List.append_assoc,List.take_append_of_le_length (by simp;omega),List.take_of_length_le (by simp;omega)]
 have l2:List.drop (xs.length - 1+1) (List.take i xs++(List.drop (i+1) xs++List.drop (xs.length - 1) xs))=[]:=List.drop_of_length_le (by simp;omega)
 refine Bh (fn:=f36) rfl rfl ?_
 simp(maxSteps:=1000000) [Ce,-List.getD_eq_getElem?_getD,-List.map_map,f36,hr,h1,hi,Bdv,eq_true c1,eq_true c2,eq_true c3,eq_true c4,eq_true c5,eq_true c6,eq_false c7,eq_true c8,eq_true c9,hs,hm,hok,Ky,d1,eq_true d2,eq_true d3,eq_true d4,eq_true d5,fz,htk,l1,l2,enZ]
theorem Bth {α:Type} (p:α→Bool): ∀ (xs:List α),(∀x∈xs,p x=true)→xs.takeWhile p=xs
 | [],_=>rfl
 |x::r,h=>by rw[List.takeWhile_cons,if_pos (h x (by simp)),Bth p r fun y hy=>h y (by simp[hy])]
theorem Bq0: ∀ (es:List En) (t:Bq),(es.Pairwise fun a c=>Op.bytesLess a.key c.key=true)→(Fg es t=true→nAt es t=F4 es t∧nAt es t<es.length)∧(Fg es t=false→¬nAt es t<es.length)
 | [],t,_=>by simp[Fg,nAt]
 |x::r,t,h=>by
  have ih:=Bq0 r t (List.Pairwise.of_cons h)
  unfold Fg nAt F4 at*
  rw[List.takeWhile_cons,List.takeWhile_cons]
  by_cases h1:x.key=t
  ·subst h1
   simp[G8]
  ·cases h2:Op.bytesLess x.key t with
   |true=>simpa[h1,h2] using ih
   |false=>
    have h3:=Bbn h2 h1
    have h4: ∀y∈r,¬y.key=t:=fun y hy he=>by
     have:=Pj h3 (List.rel_of_pairwise_cons h hy)
     rw[he,G8] at this
     simp at this
    have h5: (r.takeWhile fun e=> !decide (e.key=t))=r:=Bth _ r fun y hy=>by simp[h4 y hy]
    simp[h1,h2,h5]
theorem Bap {b:Ba} (h:BaO b) (t:Bq):aV b.ents t=if Fg b.ents t=true then(F4 b.ents t:Int) else -1:=by
 have:=Bq0 b.ents t h.asc
 unfold aV
 cases hk:Fg b.ents t with
 |true=>obtain⟨h1,h2⟩:=this.1 hk;rw[if_pos h2,if_pos rfl,h1]
 |false=>rw[if_neg (this.2 hk),if_neg (by simp)]
theorem Bl4 (es:List En) (t:Bq):aV es t<0∨(0≤aV es t∧aV es t<es.length):=by unfold aV;split<;>omega
def Si:En:=⟨[],0,0,[],[],[],[]⟩
def U2 (b:Ba) (t:Bq):En×Bool:=if Jo b=true∧Fg b.ents t=true then(Bw b t,true) else(Si,false)
def Bgc (b:Ba) (t:Bq):Ba×Bool:=if Jo b=true then(Cb b t,Fg b.ents t) else(⟨0,[]⟩,false)
theorem p_8 (b:Ba) (t:Bq) (hb:BaSm b) (hf:BaFit b):Be (ev R) 8 [.d (Df b), .d (.str t)]=some (.tup [.d (Fy (U2 b t).1), .d (.bool (U2 b t).2)]):=Bb fun H=>by
 refine Bh (fn:=f8) rfl rfl ?_
 have p1:=Bov b t hb.len
 have p2:=Bow b hf
 unfold U2
 cases hk:Jo b with
 |false=>
  rw[hk] at p2
  simp[Ci,-List.getD_eq_getElem?_getD,-List.map_map,f8,p1,p2,Si]
 |true=>
  rw[hk] at p2
  have hO:=(F6 b).1 hk
  rw[Bap hO] at p1
  unfold Bw
  cases h:Fg b.ents t with
  |false=>
   rw[h] at p1
   simp[Ci,-List.getD_eq_getElem?_getD,-List.map_map,f8,p1,p2,Si]
  |true=>
   rw[h] at p1
   have hl:=J8 h
   have c: (F4 b.ents t:Int)< (b.ents.length:Int):=by omega
   have c0: (0:Int)≤(F4 b.ents t:Int):=by omega
   have c1: ¬ (F4 b.ents t:Int)<0:=by omega
   have g:=Ja b.ents (F4 b.ents t) hl
   have p3:=Bwk (b.ents.getD (F4 b.ents t) default) (hb.each _ (Gr hl))
   simp[Ci,-List.getD_eq_getElem?_getD,-List.map_map,f8,p1,p2,p3,hl,c,c0,c1,g]
theorem p_9 (b:Ba) (t:Bq) (hb:BaSm b) (hf:BaFit b):Be (ev R) 9 [.d (Df b), .d (.str t)]=some (.tup [.d (Fy (U2 b t).1), .d (.bool (U2 b t).2)]):=Bb fun H=>by
 refine Bh (fn:=f9) rfl rfl ?_
 have p1:=Box b t hb.len
 have p2:=Bzz b hf
 have p3:=Gz b t hb
 unfold U2
 cases hk:Jo b with
 |false=>
  rw[hk] at p2
  simp[Ci,-List.getD_eq_getElem?_getD,-List.map_map,f9,p1,p2,Si]
 |true=>
  rw[hk] at p2
  cases h:Fg b.ents t with
  |false=>rw[h] at p1;simp[Ci,-List.getD_eq_getElem?_getD,-List.map_map,f9,p1,p2,p3,Si]
  |true=>rw[h] at p1;simp[Ci,-List.getD_eq_getElem?_getD,-List.map_map,f9,p1,p2,p3]
theorem B4k (b:Ba) (t:Bq) (hb:BaSm b) (hf:BaFit b):Be (ev R) 13 [.d (Df b), .d (.str t)]=some (.tup [.d (Df (Bgc b t).1), .d (.bool (Bgc b t).2)]):=Bb fun H=>by
 refine Bh (fn:=f13) rfl rfl ?_
 have p1:=Bov b t hb.len
 have p2:=Bow b hf
 have p3:=Bvp b hb.len hb.each
 have hbl:=hb.len
 unfold Bgc
 cases hk:Jo b with
 |false=>
  rw[hk] at p2
  simp(maxSteps:=1000000) [Ce,-List.getD_eq_getElem?_getD,-List.map_map,f13,p1,p2,Fx]
 |true=>
  rw[hk] at p2
  have hO:=(F6 b).1 hk
  rw[Bap hO] at p1
  unfold Cb
  cases h:Fg b.ents t with
  |false=>
   rw[h] at p1
   simp(maxSteps:=1000000) [Ce,-List.getD_eq_getElem?_getD,-List.map_map,f13,p1,p2,p3]
  |true=>
   rw[h] at p1
   have hl:=J8 h
   generalize F4 b.ents t=k at*
   have c1: ¬ (k:Int)<0:=by omega
   have w1:IntKind.i64.wrap ((k:Int)+1)=(k:Int)+1:=IntWalk.i64_in _ (by omega)
   have p4:=fun (H:Hp) (r:Nat) hr=>B1o H r ((b.ents.map Fy).map V.d) k hr (by simp) (by simpa using hl) (by simpa using hbl)
   simp only[List.length_map] at p4
   obtain⟨DX,hDX⟩: ∃x,x=List.take k (List.map V.d (List.map Fy b.ents))++(List.drop (k+1) (List.map V.d (List.map Fy b.ents))++[enZ]):=⟨_,rfl⟩
   have dl:DX.length=b.ents.length:=by rw[hDX];simp;omega
   have dk:=Md b.ents k hl
   have dt:DX.take (b.ents.length - 1)=List.map V.d (List.map Fy (Gw b.ents k)):=by
    rw[hDX,←List.append_assoc,Xb,List.take_append_of_le_length (by simp[dk]),List.take_of_length_le (by simp[dk])]
   rw[←hDX] at p4
   have r1: (b.ents.length - 1)*120≤Cq:=by unfold Cq;omega
   have d1:b.ents.length - 1≤b.ents.length:=by omega
   simp(maxSteps:=1000000) [Ce,-List.getD_eq_getElem?_getD,-List.map_map,f13,p1,p2,p3,p4,c1,w1,dl,dt,dk,r1,d1]
def Bsp (s:Bq):Re:= .mk 1 0 s [] []
def R8:Re:= .mk 0 0 [] [] []
theorem B8f (s:Bq):Be (ev R) 32 [.d (.str s)]=some (.d (Te (Bsp s))):=Bb fun H=>by
 refine Bh (fn:=f32) rfl rfl ?_
 simp[Ci,-List.getD_eq_getElem?_getD,-List.map_map,f32,Bsp]
def dC (b:Ba) (a:D) (nu:V) (z:Bool) (e:En):List V:=[.d (.int .i64 b.now), .d (Lf b.ents), .d a,nu, .d (.str e.key), .d (.int .i64 e.till), .d (.int .i64 e.kind), .d (.str e.text),(bif z then .nils 1 else .d (Bf e.list)),(bif z then .nils 2 else .d (De e.scores)),(bif z then .nils 2 else .d (Ff e.fields))]
def dD (b:Ba) (a nu:D) (e:En):D:= .rptr [.int .i64 b.now,Lf b.ents,a,nu, .str e.key, .int .i64 e.till, .int .i64 e.kind, .str e.text,Bf e.list,De e.scores,Ff e.fields]
def dO (b:Ba) (a:D) (nu:V) (z:Bool) (e:En):Ev.Obj:= .row 0 11 [.agg (dC b a nu z e)]
def zOk (z:Bool) (e:En):Prop:=z=true→e.list=[]∧e.scores=[]∧e.fields=[]
theorem B8o (b:Ba) (w t:Bq) (r:List D) (nu:D) (e:En) (hb:b.ents.length≤1000000):Be (ev R) 76 [.d (dD b (.vals 1 (.str w:: .str t::r)) nu e)]=some (.d (.bool (decide (0≤aV b.ents t)))):=Bb fun H=>by
 refine Bh (fn:=f76) rfl rfl ?_
 have p:=Bov b t hb
 have q: (1:Int)< (r.length:Int)+1+1:=by omega
 simp(maxSteps:=1000000) [Ce,-List.getD_eq_getElem?_getD,-List.map_map,f76,p,dD,q]
def eDo (b:Ba) (t:Bq) (k:Int):En:=if Fg b.ents t=true then Bw b t else⟨t,0,k,[],[],[],[]⟩
theorem B09 (b:Ba) (t:Bq) (k:Int):zOk (!Fg b.ents t) (eDo b t k):=by
 intro h
 unfold eDo
 rw[Bool.not_eq_true'] at h
 simp[h]
def Bqm (c:Nat) (o:Ev.Obj) (b':Ba) (rp:Re):Prop:=∃cs:List V,∀X r,r<Bc X→ev R c [.ptr r 0 0 0] (oh X r o [])=some (.d (Te rp),Bz X r (.row 0 11 [.agg (.d (.int .i64 b'.now):: .d (Lf b'.ents)::cs)]))
theorem Bnx {c:Nat} {o:Ev.Obj} {b':Ba} {rp:Re} (hc:Bqm c o b' rp) (H:Hp): ∃cs:List V,∀ (i:Nat) (l:Hp),Cf l i=some o→ev R c [.ptr (Bc H+i) 0 0 0] (ap H l)=some (.d (Te rp),ap H (Bz l i (.row 0 11 [.agg (.d (.int .i64 b'.now):: .d (Lf b'.ents)::cs)]))):=by
 obtain⟨cs,hc⟩:=hc
 refine⟨cs,fun i l h=> ?_⟩
 have h1:Cf (ap H l) (Bc H+i)=some o:=by rw[L8,h]
 have h2:=hc (ap H l) (Bc H+i) (D6 h1)
 rw[←Br1 _ _ _ h1] at h2
 rw[h2,Rc]
theorem B08 {b:Ba} {W t s:Bq} {c:Nat} {rp:Re} {b':Ba} (hW:Ev.Bcy (.str W) Yr Yt=some (some (Dw [75,75] 0 (.fn (.func c) [])))) (hO:BaO b) (ht:1≤t.length∧t.length≤12) (hs:1≤s.length∧s.length≤12)
  (hc:Bqm c (dO b (.vals 1 [.str W, .str t, .str s]) (.nils 1) (!Fg b.ents t) (eDo b t 0)) b' rp):
  Be (ev R) 33 [.d (Df b), .d (.vals 1 [.str W, .str t, .str s])]=some (.tup [.d (Df b'), .d (Te rp)]):=Bb fun H=>by
 refine Bh (fn:=f33) rfl rfl ?_
 have hb:=hO.g.sm
 have hf:=hO.g.fit
 have p0:=B8k
 have p1:=Bzn 0 (.fn (.func c) []) W t s
 have p2:=B2b 0 (.fn (.func c) [])
 have p2b:=B2c 0 (.fn (.func c) [])
 have p3:Be (ev R) 57 [.d (.str t)]=some (.d (.bool (Gb t))):=Bb (cl:=ev R) fun H=>Bex H t
 have htv:Gb t=true:=by unfold Gb;simp;omega
 rw[htv] at p3
 have p4:=Bov b t hb.len
 have p3s:Be (ev R) 57 [.d (.str s)]=some (.d (.bool (Gb s))):=Bb (cl:=ev R) fun H=>Bex H s
 have hsv:Gb s=true:=by unfold Gb;simp;omega
 rw[hsv] at p3s
 have p4s:=Bov b s hb.len
 have p5:=Bwm b hb
 have p5n:=Bmz b hb
 have p6:=p_8 b t hb hf
 obtain⟨cs,hc'⟩:=Bnx hc H
 unfold U2 at p6
 rw[Bap hO] at p4
 rw[(F6 b).2 hO] at p6
 simp only[Dw,dO,dC] at hW hc'
 unfold eDo at hc'
 cases h:Fg b.ents t with
 |false=>
  rw[h] at p4 p6 hc'
  simp only[Bool.false_eq_true,if_false,and_false,Bool.not_false,cond_true] at p4 p6 hc'
  have hl:True:=trivial
  have c1:True:=trivial
  have c2:True:=trivial
  have g:True:=trivial
  rcases Bl4 b.ents s with c3|c3
  ·have c4: ¬ (0:Int)≤aV b.ents s:=by omega
   have c5: ¬aV b.ents s≥0:=by omega
   simp(maxSteps:=1000000) [Ce,-List.getD_eq_getElem?_getD,-List.map_map,f33,p0,p1,p2,p3,p4,p5,p5n,p6,hW,hc',Uh,Ui,Uj,Uk,p2b,p3s,p4s,hl,c1,c2,g,c3,c4,c5]
   rw[Bu]
   generalize hFl10:Bg (Bp (ev R) R.glob (Bc H) Bg Kc) [1,2,4,5,6,8]=Fl10
   simp(maxSteps:=1000000) [Ce,-List.getD_eq_getElem?_getD,-List.map_map,Kc,p0,p1,p2,p3,p4,p5,p5n,p6,hW,hc',Uh,Ui,Uj,Uk,p2b,p3s,p4s,hl,c1,c2,g,c3,c4,c5]
   rw[←hFl10,Bu]
   generalize hFl11:Bg (Bp (ev R) R.glob (Bc H) Bg Kc) [1,2,4,5,6,8]=Fl11
   simp(maxSteps:=1000000) [Ce,-List.getD_eq_getElem?_getD,-List.map_map,Kc,p0,p1,p2,p3,p4,p5,p5n,p6,hW,hc',Uh,Ui,Uj,Uk,p2b,p3s,p4s,hl,c1,c2,g,c3,c4,c5]
   rw[←hFl11,Bu]
   generalize hFl12:Bg (Bp (ev R) R.glob (Bc H) Bg Kc) [1,2,4,5,6,8]=Fl12
   simp(maxSteps:=1000000) [Ce,-List.getD_eq_getElem?_getD,-List.map_map,Kc,p0,p1,p2,p3,p4,p5,p5n,p6,hW,hc',Uh,Ui,Uj,Uk,p2b,p3s,p4s,hl,c1,c2,g,c3,c4,c5]
   rw[Bu]
   generalize hFl00:Bg (Bp (ev R) R.glob (Bc H) Bg Kb) [1,2,4,5,6,10,11]=Fl00
   simp(maxSteps:=1000000) [Ce,-List.getD_eq_getElem?_getD,-List.map_map,Kb,p0,p1,p2,p3,p4,p5,p5n,p6,hW,hc',Uh,Ui,Uj,Uk,p2b,p3s,p4s,hl,c1,c2,g,c3,c4,c5]
   rw[←hFl00,Bu]
   generalize hFl01:Bg (Bp (ev R) R.glob (Bc H) Bg Kb) [1,2,4,5,6,10,11]=Fl01
   simp(maxSteps:=1000000) [Ce,-List.getD_eq_getElem?_getD,-List.map_map,Kb,p0,p1,p2,p3,p4,p5,p5n,p6,hW,hc',Uh,Ui,Uj,Uk,p2b,p3s,p4s,hl,c1,c2,g,c3,c4,c5]
   rw[←hFl01,Bu]
   generalize hFl02:Bg (Bp (ev R) R.glob (Bc H) Bg Kb) [1,2,4,5,6,10,11]=Fl02
   simp(maxSteps:=1000000) [Ce,-List.getD_eq_getElem?_getD,-List.map_map,Kb,p0,p1,p2,p3,p4,p5,p5n,p6,hW,hc',Uh,Ui,Uj,Uk,p2b,p3s,p4s,hl,c1,c2,g,c3,c4,c5]
  ·have c4: (0:Int)≤aV b.ents s:=by omega
   have c5:aV b.ents s≥0:=by omega
   simp(maxSteps:=1000000) [Ce,-List.getD_eq_getElem?_getD,-List.map_map,f33,p0,p1,p2,p3,p4,p5,p5n,p6,hW,hc',Uh,Ui,Uj,Uk,p2b,p3s,p4s,hl,c1,c2,g,c3,c4,c5]
   rw[Bu]
   generalize hFl10:Bg (Bp (ev R) R.glob (Bc H) Bg Kc) [1,2,4,5,6,8]=Fl10
   simp(maxSteps:=1000000) [Ce,-List.getD_eq_getElem?_getD,-List.map_map,Kc,p0,p1,p2,p3,p4,p5,p5n,p6,hW,hc',Uh,Ui,Uj,Uk,p2b,p3s,p4s,hl,c1,c2,g,c3,c4,c5]
   rw[←hFl10,Bu]
   generalize hFl11:Bg (Bp (ev R) R.glob (Bc H) Bg Kc) [1,2,4,5,6,8]=Fl11
   simp(maxSteps:=1000000) [Ce,-List.getD_eq_getElem?_getD,-List.map_map,Kc,p0,p1,p2,p3,p4,p5,p5n,p6,hW,hc',Uh,Ui,Uj,Uk,p2b,p3s,p4s,hl,c1,c2,g,c3,c4,c5]
   rw[←hFl11,Bu]
   generalize hFl12:Bg (Bp (ev R) R.glob (Bc H) Bg Kc) [1,2,4,5,6,8]=Fl12
   simp(maxSteps:=1000000) [Ce,-List.getD_eq_getElem?_getD,-List.map_map,Kc,p0,p1,p2,p3,p4,p5,p5n,p6,hW,hc',Uh,Ui,Uj,Uk,p2b,p3s,p4s,hl,c1,c2,g,c3,c4,c5]
   rw[Bu]
   generalize hFl00:Bg (Bp (ev R) R.glob (Bc H) Bg Kb) [1,2,4,5,6,10,11]=Fl00
   simp(maxSteps:=1000000) [Ce,-List.getD_eq_getElem?_getD,-List.map_map,Kb,p0,p1,p2,p3,p4,p5,p5n,p6,hW,hc',Uh,Ui,Uj,Uk,p2b,p3s,p4s,hl,c1,c2,g,c3,c4,c5]
   rw[←hFl00,Bu]
   generalize hFl01:Bg (Bp (ev R) R.glob (Bc H) Bg Kb) [1,2,4,5,6,10,11]=Fl01
   simp(maxSteps:=1000000) [Ce,-List.getD_eq_getElem?_getD,-List.map_map,Kb,p0,p1,p2,p3,p4,p5,p5n,p6,hW,hc',Uh,Ui,Uj,Uk,p2b,p3s,p4s,hl,c1,c2,g,c3,c4,c5]
   rw[←hFl01,Bu]
   generalize hFl02:Bg (Bp (ev R) R.glob (Bc H) Bg Kb) [1,2,4,5,6,10,11]=Fl02
   simp(maxSteps:=1000000) [Ce,-List.getD_eq_getElem?_getD,-List.map_map,Kb,p0,p1,p2,p3,p4,p5,p5n,p6,hW,hc',Uh,Ui,Uj,Uk,p2b,p3s,p4s,hl,c1,c2,g,c3,c4,c5]
 |true=>
  rw[h] at p4 p6 hc'
  simp only[if_true,and_true,Bool.not_true,cond_false] at p4 p6 hc'
  have hl:=J8 h
  have c1: ¬ (F4 b.ents t:Int)<0:=by omega
  have c2: (F4 b.ents t:Int)≥0:=by omega
  have g:=Ja b.ents (F4 b.ents t) hl
  have hg:b.ents.getD (F4 b.ents t) default=Bw b t:=by unfold Bw;rw[if_pos h]
  rw[hg] at g
  rcases Bl4 b.ents s with c3|c3
  ·have c4: ¬ (0:Int)≤aV b.ents s:=by omega
   have c5: ¬aV b.ents s≥0:=by omega
   simp(maxSteps:=1000000) [Ce,-List.getD_eq_getElem?_getD,-List.map_map,f33,p0,p1,p2,p3,p4,p5,p5n,p6,hW,hc',Uh,Ui,Uj,Uk,p2b,p3s,p4s,hl,c1,c2,g,c3,c4,c5]
   rw[Bu]
   generalize hFl10:Bg (Bp (ev R) R.glob (Bc H) Bg Kc) [1,2,4,5,6,8]=Fl10
   simp(maxSteps:=1000000) [Ce,-List.getD_eq_getElem?_getD,-List.map_map,Kc,p0,p1,p2,p3,p4,p5,p5n,p6,hW,hc',Uh,Ui,Uj,Uk,p2b,p3s,p4s,hl,c1,c2,g,c3,c4,c5]
   rw[←hFl10,Bu]
   generalize hFl11:Bg (Bp (ev R) R.glob (Bc H) Bg Kc) [1,2,4,5,6,8]=Fl11
   simp(maxSteps:=1000000) [Ce,-List.getD_eq_getElem?_getD,-List.map_map,Kc,p0,p1,p2,p3,p4,p5,p5n,p6,hW,hc',Uh,Ui,Uj,Uk,p2b,p3s,p4s,hl,c1,c2,g,c3,c4,c5]
   rw[←hFl11,Bu]
   generalize hFl12:Bg (Bp (ev R) R.glob (Bc H) Bg Kc) [1,2,4,5,6,8]=Fl12
   simp(maxSteps:=1000000) [Ce,-List.getD_eq_getElem?_getD,-List.map_map,Kc,p0,p1,p2,p3,p4,p5,p5n,p6,hW,hc',Uh,Ui,Uj,Uk,p2b,p3s,p4s,hl,c1,c2,g,c3,c4,c5]
   rw[Bu]
   generalize hFl00:Bg (Bp (ev R) R.glob (Bc H) Bg Kb) [1,2,4,5,6,10,11]=Fl00
   simp(maxSteps:=1000000) [Ce,-List.getD_eq_getElem?_getD,-List.map_map,Kb,p0,p1,p2,p3,p4,p5,p5n,p6,hW,hc',Uh,Ui,Uj,Uk,p2b,p3s,p4s,hl,c1,c2,g,c3,c4,c5]
   rw[←hFl00,Bu]
   generalize hFl01:Bg (Bp (ev R) R.glob (Bc H) Bg Kb) [1,2,4,5,6,10,11]=Fl01
   simp(maxSteps:=1000000) [Ce,-List.getD_eq_getElem?_getD,-List.map_map,Kb,p0,p1,p2,p3,p4,p5,p5n,p6,hW,hc',Uh,Ui,Uj,Uk,p2b,p3s,p4s,hl,c1,c2,g,c3,c4,c5]
   rw[←hFl01,Bu]
   generalize hFl02:Bg (Bp (ev R) R.glob (Bc H) Bg Kb) [1,2,4,5,6,10,11]=Fl02
   simp(maxSteps:=1000000) [Ce,-List.getD_eq_getElem?_getD,-List.map_map,Kb,p0,p1,p2,p3,p4,p5,p5n,p6,hW,hc',Uh,Ui,Uj,Uk,p2b,p3s,p4s,hl,c1,c2,g,c3,c4,c5]
  ·have c4: (0:Int)≤aV b.ents s:=by omega
   have c5:aV b.ents s≥0:=by omega
   simp(maxSteps:=1000000) [Ce,-List.getD_eq_getElem?_getD,-List.map_map,f33,p0,p1,p2,p3,p4,p5,p5n,p6,hW,hc',Uh,Ui,Uj,Uk,p2b,p3s,p4s,hl,c1,c2,g,c3,c4,c5]
   rw[Bu]
   generalize hFl10:Bg (Bp (ev R) R.glob (Bc H) Bg Kc) [1,2,4,5,6,8]=Fl10
   simp(maxSteps:=1000000) [Ce,-List.getD_eq_getElem?_getD,-List.map_map,Kc,p0,p1,p2,p3,p4,p5,p5n,p6,hW,hc',Uh,Ui,Uj,Uk,p2b,p3s,p4s,hl,c1,c2,g,c3,c4,c5]
   rw[←hFl10,Bu]
   generalize hFl11:Bg (Bp (ev R) R.glob (Bc H) Bg Kc) [1,2,4,5,6,8]=Fl11
   simp(maxSteps:=1000000) [Ce,-List.getD_eq_getElem?_getD,-List.map_map,Kc,p0,p1,p2,p3,p4,p5,p5n,p6,hW,hc',Uh,Ui,Uj,Uk,p2b,p3s,p4s,hl,c1,c2,g,c3,c4,c5]
   rw[←hFl11,Bu]
   generalize hFl12:Bg (Bp (ev R) R.glob (Bc H) Bg Kc) [1,2,4,5,6,8]=Fl12
   simp(maxSteps:=1000000) [Ce,-List.getD_eq_getElem?_getD,-List.map_map,Kc,p0,p1,p2,p3,p4,p5,p5n,p6,hW,hc',Uh,Ui,Uj,Uk,p2b,p3s,p4s,hl,c1,c2,g,c3,c4,c5]
   rw[Bu]
   generalize hFl00:Bg (Bp (ev R) R.glob (Bc H) Bg Kb) [1,2,4,5,6,10,11]=Fl00
   simp(maxSteps:=1000000) [Ce,-List.getD_eq_getElem?_getD,-List.map_map,Kb,p0,p1,p2,p3,p4,p5,p5n,p6,hW,hc',Uh,Ui,Uj,Uk,p2b,p3s,p4s,hl,c1,c2,g,c3,c4,c5]
   rw[←hFl00,Bu]
   generalize hFl01:Bg (Bp (ev R) R.glob (Bc H) Bg Kb) [1,2,4,5,6,10,11]=Fl01
   simp(maxSteps:=1000000) [Ce,-List.getD_eq_getElem?_getD,-List.map_map,Kb,p0,p1,p2,p3,p4,p5,p5n,p6,hW,hc',Uh,Ui,Uj,Uk,p2b,p3s,p4s,hl,c1,c2,g,c3,c4,c5]
   rw[←hFl01,Bu]
   generalize hFl02:Bg (Bp (ev R) R.glob (Bc H) Bg Kb) [1,2,4,5,6,10,11]=Fl02
   simp(maxSteps:=1000000) [Ce,-List.getD_eq_getElem?_getD,-List.map_map,Kb,p0,p1,p2,p3,p4,p5,p5n,p6,hW,hc',Uh,Ui,Uj,Uk,p2b,p3s,p4s,hl,c1,c2,g,c3,c4,c5]
theorem Bwg {xs:List Bq} (h: ∀x∈xs,x.length≤40):Fu (J9 xs) xs.length 0=none:=by
 cases hr:Fu (J9 xs) xs.length 0 with
 |none=>rfl
 |some j=>
  have h2:=Q8 hr
  have h3:j<xs.length:=by omega
  have h4:=h2.2.2.1
  have h5:=h _ (Gr (d:=[]) h3)
  unfold J9 at h4
  simp only[decide_eq_true_eq] at h4
  omega
theorem Bwl (xs:List Bq) (h1:1≤xs.length∧xs.length≤8) (h2: ∀x∈xs,x.length≤40):Be (ev R) 31 [.d (Bf xs)]=some (.d (.bool true)):=Bb fun H=>by
 have hx:xs.length≤9223372036854775807:=by omega
 have p:Be (ev R) 53 [.d (Bf xs), .d (.int .i64 8)]=some (.d (.bool true)):=Bb fun H=>by
  refine Bh (fn:=f53) rfl rfl ?_
  obtain⟨e',he,h1',h2'⟩:=Bzs (Bc H) xs hx 8 H xs.length 0 [(0, .d (Bf xs)),(1, .d (.int .i64 8)),(7, .d (Bf xs)),(8, .d (.int .i64 xs.length)),(9, .d (.int .i64 0))] (by omega) rfl rfl rfl rfl rfl
  have hr:=Bwg h2
  simp only[hr] at he
  obtain⟨h3,h4⟩:=h2' hr
  have q: (xs.length:Int)≤8:=by omega
  simp[Cn,-List.getD_eq_getElem?_getD,-List.map_map,f53,he,h3,h4,hr,Bf,q]
 have c: (0:Int)< (xs.length:Int):=by omega
 refine Bh (fn:=f31) rfl rfl ?_
 simp only[Bf] at p
 have c2:0<xs.length:=by omega
 simp[Cn,-List.getD_eq_getElem?_getD,-List.map_map,f31,Bf,p,c,c2]
theorem B8e {b b':Ba} {rp:Re} {xs:List Bq} (hO:BaO b) (hb':BaSm b') (h1:1≤xs.length∧xs.length≤8) (h2: ∀x∈xs,x.length≤40) (hr:rp.texts.length≤1000000) (hd:Be (ev R) 33 [.d (Df b), .d (Bf xs)]=some (.tup [.d (Df b'), .d (Te rp)])):
  Be (ev R) 11 [.d (Df b), .d (Bf xs)]=some (.tup [.d (Df (if rp.kind=1 then b else b')), .d (Te rp)]):=Bb fun H=>by
 refine Bh (fn:=f11) rfl rfl ?_
 have hb:=hO.g.sm
 have p1:=Bow b hO.g.fit
 rw[(F6 b).2 hO] at p1
 have p2:=Bwl xs h1 h2
 have p3:=Bwm b hb
 have p3n:=Bmz b hb
 have p4:=Bwm b' hb'
 have p4n:=Bmz b' hb'
 have p5:=B5a rp.texts hr
 have p5n:=Byz rp.texts hr
 simp only[Bf] at p2 hd p5 p5n
 obtain⟨k,n,t,l,m⟩:=rp
 simp only[Re.kind,Re.texts] at hr p5 p5n⊢
 by_cases hk:k=1
 ·simp(maxSteps:=1000000) [Ce,-List.getD_eq_getElem?_getD,-List.map_map,f11,p1,p2,p3,p3n,p4,p4n,p5,p5n,hd,hk,Bf,Y2,Wj,Bfv,Re.kind,Re.num,Re.text,Re.texts,Re.many]
 ·simp(maxSteps:=1000000) [Ce,-List.getD_eq_getElem?_getD,-List.map_map,f11,p1,p2,p3,p3n,p4,p4n,p5,p5n,hd,hk,Bf,Y2,Wj,Bfv,Re.kind,Re.num,Re.text,Re.texts,Re.many]
theorem Bwe {k:Nat} {xs:List V} {v:V} {o o':Ev.Obj} (h: ∀X r,r<Bc X→ev R k (.ptr r 0 0 0::xs) (oh X r o [])=some (v,Bz X r o')) (X:Hp) (r:Nat) (hr:r<Bc X) (l:Hp):ev R k (.ptr r 0 0 0::xs) (oh X r o l)=some (v,oh X r o' l):=by
 have h1:=Br2 X l r o hr
 have h2:=h (oh X r o l) r (by rw[Qp];omega)
 rw[←Br1 _ _ _ h1] at h2
 rw[h2,Bff X l r o hr]
def DoesO (c:Nat) (o o':Ev.Obj) (rp:Re):Prop:=∀X r,r<Bc X→ev R c [.ptr r 0 0 0] (oh X r o [])=some (.d (Te rp),Bz X r o')
theorem DoesO.does {c:Nat} {o:Ev.Obj} {b':Ba} {a:D} {nu:V} {z:Bool} {e:En} {rp:Re} (h:DoesO c o (dO b' a nu z e) rp):Bqm c o b' rp:=⟨_,h⟩
theorem Bwa {H:Hp} {r:Nat} {b:Ba} {a:D} {z:Bool} {e:En} (hz:zOk z e) (h:Cf H r=some (dO b a (.nils 1) z e)):fz 0 M7 H (.ptr r 0 0 0)=some (dD b a (.vals 1 []) e):=by
 cases z with
 |false=>simp[Cw,h,dO,dC,dD,fz,M7,Gq,V.cells]
 |true=>
  obtain⟨h1,h2,h3⟩:=hz rfl
  simp[Cw,h,dO,dC,dD,fz,M7,Gq,V.cells,h1,h2,h3,De,Ff]
section
variable {b:Ba} {nu:V} {z:Bool} {e:En} (a:D)
end
theorem Ld {b:Ba} (h:BaO b) (t:Bq):BaO (Cb b t):=by
 refine⟨by rw[Jy];exact h.now,Nat.le_trans (Qz b t) h.len,fun e he=>by rw[Jy];exact h.each e (S9 he), ?_⟩
 unfold Cb
 split
 ·refine h.asc.sublist ?_
  unfold Gw
  have:=(List.Sublist.refl (b.ents.take (F4 b.ents t))).append (List.drop_sublist_drop_left b.ents (Nat.le_succ (F4 b.ents t)))
  rwa[List.take_append_drop] at this
 ·exact h.asc
theorem Qy {es:List En} (h:es.Pairwise fun a c=>Op.bytesLess a.key c.key=true) (t:Bq): (∀x∈es.take (F4 es t),Op.bytesLess x.key t=true)∧∀x∈es.drop (F4 es t),Op.bytesLess x.key t=false:=by
 induction es with
 |nil=>simp
 |cons x r ih=>
  have ih:=ih (List.Pairwise.of_cons h)
  unfold F4 at*
  rw[List.takeWhile_cons]
  cases h1:Op.bytesLess x.key t with
  |true=>
   simp only[if_true,List.length_cons,List.take_succ_cons,List.drop_succ_cons]
   refine⟨fun y hy=> ?_,ih.2⟩
   rcases List.mem_cons.1 hy with rfl|hy
   ·exact h1
   ·exact ih.1 y hy
  |false=>
   simp only[Bool.false_eq_true,if_false,List.length_nil,List.take_zero,List.drop_zero]
   refine⟨fun y hy=>by simp at hy,fun y hy=> ?_⟩
   rcases List.mem_cons.1 hy with rfl|hy
   ·exact h1
   ·cases h2:Op.bytesLess y.key t with
    |false=>rfl
    |true=>rw[Pj (List.rel_of_pairwise_cons h hy) h2] at h1;simp at h1
theorem Su {es:List En} (h:es.Pairwise fun a c=>Op.bytesLess a.key c.key=true) {t:Bq} (hk:Fg es t=false): ∀x∈es,¬x.key=t:=by
 intro x hx he
 have hp:=Qy h t
 rw[←List.take_append_drop (F4 es t) es] at hx
 rcases List.mem_append.1 hx with hx|hx
 ·have:=hp.1 x hx
  rw[he,G8] at this
  simp at this
 ·obtain⟨y,r,hr⟩: ∃y r,es.drop (F4 es t)=y::r:=by
   cases hd:es.drop (F4 es t) with
   |nil=>rw[hd] at hx;simp at hx
   |cons y r=>exact⟨y,r,rfl⟩
  have hlt:F4 es t<es.length:=by
   have:=congrArg List.length hr
   simp at this;omega
  have hy:es.getD (F4 es t) default=y:=by
   have:=congrArg (fun l=>l.getD 0 default) hr
   simpa[List.getD_eq_getElem?_getD] using this
  have hne: ¬y.key=t:=fun hyk=>by
   unfold Fg at hk
   rw[hy] at hk
   simp[hlt,hyk] at hk
  rw[hr] at hx hp
  rcases List.mem_cons.1 hx with rfl|hx
  ·exact hne he
  ·have ha:=h.sublist (List.drop_sublist (F4 es t) es)
   rw[hr] at ha
   have h1:=List.rel_of_pairwise_cons ha hx
   rw[he] at h1
   rw[hp.2 y (by simp)] at h1
   simp at h1
theorem Sz {b:Ba} (h:BaO b) (t:Bq):Fg (Cb b t).ents t=false:=by
 unfold Cb
 cases hk:Fg b.ents t with
 |false=>simpa using hk
 |true=>
  simp only[if_true]
  have hp:=Qy h.asc t
  have hl:=J8 hk
  have hd:b.ents.drop (F4 b.ents t)=b.ents.getD (F4 b.ents t) default::b.ents.drop (F4 b.ents t+1):=by
   rw[List.drop_eq_getElem_cons hl]
   simp[List.getD_eq_getElem?_getD,hl]
  have hkey: (b.ents.getD (F4 b.ents t) default).key=t:=by
   unfold Fg at hk
   rw[Bool.and_eq_true] at hk
   exact of_decide_eq_true hk.2
  have ha:=h.asc.sublist (List.drop_sublist (F4 b.ents t) b.ents)
  rw[hd] at ha
  cases hq:Fg (Gw b.ents (F4 b.ents t)) t with
  |false=>rfl
  |true=>
   have hl2:=J8 hq
   have hm: (Gw b.ents (F4 b.ents t)).getD (F4 (Gw b.ents (F4 b.ents t)) t) default∈Gw b.ents (F4 b.ents t):=Gr hl2
   unfold Fg at hq
   rw[Bool.and_eq_true] at hq
   have he:=of_decide_eq_true hq.2
   generalize(Gw b.ents (F4 b.ents t)).getD (F4 (Gw b.ents (F4 b.ents t)) t) default=y at*
   unfold Gw at hm
   rcases List.mem_append.1 hm with hm|hm
   ·have:=hp.1 y hm
    rw[he,G8] at this
    simp at this
   ·have:=List.rel_of_pairwise_cons ha hm
    rw[hkey,he,G8] at this
    simp at this
theorem Bmr {es:List En} (h:es.Pairwise fun a c=>Op.bytesLess a.key c.key=true) {e:En} (hk:Fg es e.key=false): (Dt es (F4 es e.key) e).Pairwise fun a c=>Op.bytesLess a.key c.key=true:=by
 have hp:=Qy h e.key
 have hm:=Su h hk
 unfold Dt
 have ha:=h
 rw[←List.take_append_drop (F4 es e.key) es] at ha
 obtain⟨h1,h2,h3⟩:=List.pairwise_append.1 ha
 have hg: ∀y∈es.drop (F4 es e.key),Op.bytesLess e.key y.key=true:=fun y hy=>Bbn (hp.2 y hy) (hm y (List.mem_of_mem_drop hy))
 refine List.pairwise_append.2 ⟨h1,List.pairwise_cons.2 ⟨hg,h2⟩,fun x hx y hy=> ?_⟩
 rcases List.mem_cons.1 hy with rfl|hy
 ·exact hp.1 x hx
 ·exact h3 x hx y hy
theorem Bf3 (e:En):Zu false (.d (Fy e))=some (0,e.key):=rfl
theorem Bmt {es:List En} : ∀x∈(es.map Fy).map V.d,(Zu false x).isSome=true:=by
 intro x hx
 obtain⟨d,hd,rfl⟩:=List.mem_map.1 hx
 obtain⟨e,he,rfl⟩:=List.mem_map.1 hd
 rfl
theorem Bg5 {es:List En} (h:es.Pairwise fun a c=>Op.bytesLess a.key c.key=true): ∀a∈es,∀c∈es,a.key=c.key→a=c:=by
 induction es with
 |nil=>intro a ha;simp at ha
 |cons x r ih=>
  have hr:=List.Pairwise.of_cons h
  intro a ha c hc he
  rcases List.mem_cons.1 ha with rfl|ha2
  ·rcases List.mem_cons.1 hc with rfl|hc
   ·rfl
   ·have:=List.rel_of_pairwise_cons h hc
    rw[he,G8] at this;simp at this
  ·skip
   rcases List.mem_cons.1 hc with rfl|hc
   ·have:=List.rel_of_pairwise_cons h ha2
    rw[he,G8] at this;simp at this
   ·exact ih hr a ha2 c hc he
theorem Btb {es:List En} (h:es.Pairwise fun a c=>Op.bytesLess a.key c.key=true) {e:En} (hk:Fg es e.key=false):
  (∀a∈(es.map Fy).map V.d++[V.d (Fy e)],∀c∈(es.map Fy).map V.d++[V.d (Fy e)],Zu false a=Zu false c→a=c)∧X3 false ((es.map Fy).map V.d++[V.d (Fy e)])=((Dt es (F4 es e.key) e).map Fy).map V.d:=by
 have ha:=Bmr h hk
 have e0: (es.map Fy).map V.d++[V.d (Fy e)]=((es++[e]).map Fy).map V.d:=by simp
 have hperm: (Dt es (F4 es e.key) e).Perm (es++[e]):=by
  unfold Dt
  refine List.perm_middle.trans ?_
  rw[List.take_append_drop]
  exact(List.perm_append_singleton e es).symm
 have hi:=Bg5 ha
 have hin: ∀a∈((es++[e]).map Fy).map V.d,∀c∈((es++[e]).map Fy).map V.d,Zu false a=Zu false c→a=c:=by
  intro a ha c hc he
  obtain⟨d,hd,rfl⟩:=List.mem_map.1 ha
  obtain⟨x,hx,rfl⟩:=List.mem_map.1 hd
  obtain⟨d,hd,rfl⟩:=List.mem_map.1 hc
  obtain⟨y,hy,rfl⟩:=List.mem_map.1 hd
  rw[Bf3,Bf3] at he
  simp only[Option.some.injEq,Prod.mk.injEq,true_and] at he
  rw[hi x (hperm.mem_iff.2 hx) y (hperm.mem_iff.2 hy) he]
 rw[e0]
 refine⟨hin,(X4 ((hperm.map Fy).map V.d) ?_ Bmt hin).symm⟩
 rw[List.pairwise_map,List.pairwise_map]
 refine ha.imp fun {a c} hac=> ?_
 unfold leV
 rw[Bf3,Bf3]
 simp only[Option.getD_some,ltK,Int.lt_irrefl,decide_false,Bool.false_or,decide_true,Bool.true_and,Bool.not_eq_true']
 cases hq:Op.bytesLess c.key a.key with
 |false=>rfl
 |true=>have:=Pj hac hq;rw[G8] at this;simp at this
theorem B1l (H:Hp) (r g:Nat) (xs:List V) (hr:Cf H r=some (.row g 7 xs)) (hl:xs.length<4611686018427387904) (hk: ∀x∈xs,(Zu false x).isSome=true) (hi: ∀a∈xs,∀c∈xs,Zu false a=Zu false c→a=c):
  ev R 235 [.slc r g 0 xs.length, .d (.fn (.func 236) [])] H=some (.tup [],Bz H r (.row g 7 (X3 false xs))):=by
 refine Bv4 (p:=Bek false 6 236) rfl ?_
 have hrow:Cw H r g=some (7,xs):=by unfold Cw;rw[hr];simp
 unfold Bek
 simp only[hrow]
 rw[if_pos ⟨rfl,rfl,rfl,hl,hk,hi⟩]
def Yd (b:Ba) (e:En):Ba×Bool:=if Jo b=true then Ls b e else(⟨0,[]⟩,false)
def Yj (e:En):Bool:=decide (e.text=[]) &&decide (e.list=[]) &&decide (e.scores=[]) &&decide (e.fields=[])
def Y3:ACode:=(f177.body.tl.tl.tl.tl).hd
theorem Bee (n0:Bn) (env:Env) (X:Hp) (p:Nat) (e:En) (g3:env.get 3= .ptr p 0 0 0) (hp:Cf X p=some (.row 0 7 [.d (Fy e)])):
  Gives (fun o e' X'=>o= .normal∧X'=X∧e'.get 2=env.get 2∧e'.get 3=env.get 3∧e'.get 4=env.get 4∧e'.get 6=env.get 6∧e'.get 8= .d (.bool (Yj e))) (Bp (ev R) R.glob n0 Bg Y3 ⟨env,X⟩):=by
 unfold Yj
 by_cases x1:e.text=[]
 ·by_cases x2:e.list=[]
  ·by_cases x3:e.scores=[]
   ·by_cases x4:e.fields=[]<;>simp(maxSteps:=1000000) [Ce,-List.getD_eq_getElem?_getD,-List.map_map,Y3,f177,ACode.tl,ACode.hd,g3,hp,x1,x2,x3,x4]
   ·simp(maxSteps:=1000000) [Ce,-List.getD_eq_getElem?_getD,-List.map_map,Y3,f177,ACode.tl,ACode.hd,g3,hp,x1,x2,x3]
  ·simp(maxSteps:=1000000) [Ce,-List.getD_eq_getElem?_getD,-List.map_map,Y3,f177,ACode.tl,ACode.hd,g3,hp,x1,x2]
 ·simp(maxSteps:=1000000) [Ce,-List.getD_eq_getElem?_getD,-List.map_map,Y3,f177,ACode.tl,ACode.hd,g3,hp,x1]
theorem Bjv (e:En):M8 e=(decide (e.kind≠1) &&Yj e):=by
 unfold M8 Yj
 rw[Bool.and_assoc]
 congr 1
 by_cases h:e.text=[]
 ·rw[decide_eq_true h,Bool.true_and,Bool.true_and]
  cases h1:e.list<;>cases h2:e.scores<;>cases h3:e.fields<;>simp<;>omega
 ·rw[decide_eq_false h];rfl
theorem Bym {b:Ba} (h:BaO b) (e:En):Jo ⟨b.now,Dt (Cb b e.key).ents (F4 (Cb b e.key).ents e.key) e⟩=Mf b e:=by
 have hC:=Ld h e.key
 have hn:=Sz h e.key
 have hnow:=Jy b e.key
 rw[Bool.eq_iff_iff,F6]
 unfold Mf
 have hm: ∀x,x∈Dt (Cb b e.key).ents (F4 (Cb b e.key).ents e.key) e↔x∈(Cb b e.key).ents∨x=e:=fun x=>by
  unfold Dt
  rw[List.perm_middle.mem_iff,List.take_append_drop,List.mem_cons,or_comm]
 simp only[Bool.and_eq_true,Bool.not_eq_true',decide_eq_true_eq]
 constructor
 ·intro hO
  have he:=hO.each e ((hm e).2 (.inr rfl))
  have hl:=hO.len
  rw[Gs] at hl
  refine⟨⟨he.1, ?_⟩,by omega⟩
  rw[Bool.and_eq_false_iff,decide_eq_false_iff_not,decide_eq_false_iff_not]
  rcases he.2 with h|h
  ·exact .inl (fun hx=>hx h)
  ·exact .inr (by dsimp only at h;omega)
 ·rintro⟨⟨h1,h2⟩,h3⟩
  rw[Bool.and_eq_false_iff,decide_eq_false_iff_not,decide_eq_false_iff_not] at h2
  refine⟨h.now,by rw[Gs];omega,fun x hx=> ?_,Bmr hC.asc hn⟩
  rcases(hm x).1 hx with hx|rfl
  ·have:=hC.each x hx
   rw[hnow] at this
   exact this
  ·refine⟨h1, ?_⟩
   rcases h2 with h2|h2
   ·exact .inl (Decidable.not_not.1 h2)
   ·exact .inr (by dsimp only;omega)
theorem Bsd {b:Ba} (h:BaO b) {e:En} (hm:Mf b e=true):BaO ⟨b.now,Dt (Cb b e.key).ents (F4 (Cb b e.key).ents e.key) e⟩∧U2 ⟨b.now,Dt (Cb b e.key).ents (F4 (Cb b e.key).ents e.key) e⟩ e.key=(e,true)∧Cb ⟨b.now,Dt (Cb b e.key).ents (F4 (Cb b e.key).ents e.key) e⟩ e.key=Cb b e.key:=by
 have hb:=Bym h e
 rw[hm] at hb
 have hO:=(F6 _).1 hb
 have hC:=Ld h e.key
 have hp:=Qy hC.asc e.key
 have hle:=Bj4 (Cb b e.key).ents e.key
 have hlt: ((Cb b e.key).ents.take (F4 (Cb b e.key).ents e.key)).length=F4 (Cb b e.key).ents e.key:=by rw[List.length_take];omega
 have hnow:=Jy b e.key
 generalize F4 (Cb b e.key).ents e.key=k at*
 have hk:F4 (Dt (Cb b e.key).ents k e) e.key=k:=by
  unfold F4 Dt
  rw[List.takeWhile_append_of_pos (fun x hx=>hp.1 x hx),List.length_append,List.takeWhile_cons,G8,hlt]
  simp
 have hg: (Dt (Cb b e.key).ents k e).getD k default=e:=by
  unfold Dt
  rw[List.getD_eq_getElem?_getD,List.getElem?_append_right (by omega),hlt,Nat.sub_self]
  rfl
 have hh:Fg (Dt (Cb b e.key).ents k e) e.key=true:=by
  unfold Fg
  rw[hk,hg,Gs]
  simp;omega
 refine⟨hO, ?_, ?_⟩
 ·unfold U2 Bw
  dsimp only
  rw[hb,hh]
  simp only[and_self,if_true]
  rw[hk,hg]
 ·show(if Fg (Dt (Cb b e.key).ents k e) e.key=true then _ else _)=_
  rw[if_pos hh,hk]
  dsimp only
  have hd:Gw (Dt (Cb b e.key).ents k e) k=(Cb b e.key).ents:=by
   unfold Gw Dt
   rw[List.take_append_of_le_length (by omega),List.take_of_length_le (by omega),List.drop_append,hlt,List.drop_of_length_le (by omega),List.nil_append]
   rw[show k+1 - k=1 by omega,List.drop_succ_cons,List.drop_zero,List.take_append_drop]
  rw[hd,←hnow]
theorem Bo8 {b:Ba} {t:Bq} (h:Fg b.ents t=false):Cb b t=b:=by unfold Cb;rw[if_neg (by rw[h];simp)]
end Go.Proofs.YtpajcoanfkeibaaGreatDoor.Code
