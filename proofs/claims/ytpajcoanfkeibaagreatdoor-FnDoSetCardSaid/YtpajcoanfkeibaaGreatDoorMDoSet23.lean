/- Lemmas (several texts in one). -/
import Derived.Test.YtpajcoanfkeibaaGreatDoorMDoSet6
import Derived.Test.YtpajcoanfkeibaaGreatDoorMDoSet7
import Derived.Test.YtpajcoanfkeibaaGreatDoorMDoSet8
import Derived.Test.YtpajcoanfkeibaaGreatDoorMDoSet10
import Derived.Test.YtpajcoanfkeibaaGreatDoorMDoSet11
import Derived.Test.YtpajcoanfkeibaaGreatDoorMDoSet21
import Derived.Test.YtpajcoanfkeibaaGreatDoorMDoSet22
set_option maxRecDepth 100000
set_option maxHeartbeats 4000000
set_option linter.unusedSimpArgs false
set_option linter.unusedVariables false
namespace Go.Proofs.YtpajcoanfkeibaaGreatDoor.Code
open Go Go.Ev Go.Proofs
def enZ:V:= .agg [.d (.str []), .d (.int .i64 0), .d (.int .i64 0), .d (.str []), .nils 1, .nils 2, .nils 2]
theorem B2v (H:Hp) (r:Nat) (xs:List V) (i:Nat) (hr:Ce H r=some (.row 0 7 xs)) (hd: ∀x∈xs,∃d,x= .d d) (hi:i<xs.length) (hx:xs.length≤1000000):
  ev R 36 [.slc r 0 0 xs.length, .d (.int .i64 i), .d (.int .i64 (i+1))] H=some (.slc r 0 0 (xs.length - 1),Bw H r (.row 0 7 (xs.take i++(xs.drop (i+1)++[enZ])))):=by
 have h1: ¬ (i:Int)=(i:Int)+1:=by omega
 have c1: (0:Int)≤(i:Int)+1:=by omega
 have c2: (i:Int)+1≤(xs.length:Int):=by omega
 have c3: (i:Int)≤(xs.length:Int):=by omega
 have c4:i≤xs.length:=by omega
 have c5:i+1≤xs.length:=by omega
 have c6: (i:Int)≤(i:Int)+1:=by omega
 have c7: ¬i=xs.length:=by omega
 have c8:xs.length - 1≤xs.length:=by omega
 have hm:i+(xs.length - (i+1))=xs.length - 1:=by omega
 have hs: ∀o,Ce (Bw H r o) r=some o:=fun o=>Cn _ (Ff hr)
 have hok: ∀n0,(xs.drop (i+1)).all (R4 n0 r)=true:=fun n0=>List.all_eq_true.2 fun x hx=>by
  obtain⟨d,rfl⟩:=hd x (List.mem_of_mem_drop hx)
  rfl
 have c9: ((xs.length - 1:Nat):Int)≤(xs.length:Int):=by omega
 have d1:xs.length - (xs.length - 1)=1:=by omega
 have d2: (xs.length:Int)≤(i:Int)+(((xs.length - (i+1):Nat):Int)+1):=by omega
 have d3:xs.length - 1+1≤i+(xs.length - (i+1)+1):=by omega
 have d4:xs.length≤i+(xs.length - (i+1)+1):=by omega
 have d5:xs.length≤xs.length - 1+1:=by omega
 have hrl:=Ff hr
 have fz: ∀o,Td (Be H) (Bw H r o) (.slc r 0 0 (xs.length - 1))=some (.slc r 0 0 (xs.length - 1)):=fun o=>by simp[Td,hrl]
 have htk: ∀o,C8 (Bw H r o) (Be H)=Bw H r o:=fun o=>by
  have:=J2 (Bw H r o)
  rwa[Br] at this
 have l1:List.take (xs.length - 1) (List.take i xs++(List.drop (i+1) xs++List.drop (xs.length - 1) xs))=List.take i xs++List.drop (i+1) xs:=by
  rw[←List.append_assoc,List.take_append_of_le_length (by simp;omega),List.take_of_length_le (by simp;omega)]
 have l2:List.drop (xs.length - 1+1) (List.take i xs++(List.drop (i+1) xs++List.drop (xs.length - 1) xs))=[]:=List.drop_of_length_le (by simp;omega)
 refine Bh (fn:=f36) rfl rfl ?_
 simp(maxSteps:=1000000) [Ca,-List.getD_eq_getElem?_getD,-List.map_map,f36,hr,h1,hi,Bd9,eq_true c1,eq_true c2,eq_true c3,eq_true c4,eq_true c5,eq_true c6,eq_false c7,eq_true c8,eq_true c9,hs,hm,hok,K9,d1,eq_true d2,eq_true d3,eq_true d4,eq_true d5,fz,htk,l1,l2,enZ]
theorem Btv {α:Type} (p:α→Bool): ∀ (xs:List α),(∀x∈xs,p x=true)→xs.takeWhile p=xs
 | [],_=>rfl
 |x::r,h=>by rw[List.takeWhile_cons,if_pos (h x (by simp)),Btv p r fun y hy=>h y (by simp[hy])]
theorem Brf: ∀ (es:List En) (t:Bq),(es.Pairwise fun a c=>Op.bytesLess a.key c.key=true)→(Fh es t=true→nAt es t=Ga es t∧nAt es t<es.length)∧(Fh es t=false→¬nAt es t<es.length)
 | [],t,_=>by simp[Fh,nAt]
 |x::r,t,h=>by
  have ih:=Brf r t (List.Pairwise.of_cons h)
  unfold Fh nAt Ga at*
  rw[List.takeWhile_cons,List.takeWhile_cons]
  by_cases h1:x.key=t
  ·subst h1
   simp[Jh]
  ·cases h2:Op.bytesLess x.key t with
   |true=>simpa[h1,h2] using ih
   |false=>
    have h3:=Bbv h2 h1
    have h4: ∀y∈r,¬y.key=t:=fun y hy he=>by
     have:=Pt h3 (List.rel_of_pairwise_cons h hy)
     rw[he,Jh] at this
     simp at this
    have h5: (r.takeWhile fun e=> !decide (e.key=t))=r:=Btv _ r fun y hy=>by simp[h4 y hy]
    simp[h1,h2,h5]
theorem Sn {b:Ba} (h:BaO b) (t:Bq):aV b.ents t=if Fh b.ents t=true then(Ga b.ents t:Int) else -1:=by
 have:=Brf b.ents t h.asc
 unfold aV
 cases hk:Fh b.ents t with
 |true=>obtain⟨h1,h2⟩:=this.1 hk;rw[if_pos h2,if_pos rfl,h1]
 |false=>rw[if_neg (this.2 hk),if_neg (by simp)]
def Sv:En:=⟨[],0,0,[],[],[],[]⟩
def Xa (b:Ba) (t:Bq):En×Bool:=if Jy b=true∧Fh b.ents t=true then(Bz b t,true) else(Sv,false)
def Bmz (b:Ba) (t:Bq):Ba×Bool:=if Jy b=true then(Co b t,Fh b.ents t) else(⟨0,[]⟩,false)
theorem p_8 (b:Ba) (t:Bq) (hb:BaSm b) (hf:BaFit b):Bc (ev R) 8 [.d (Db b), .d (.str t)]=some (.tup [.d (F3 (Xa b t).1), .d (.bool (Xa b t).2)]):=Bb fun H=>by
 refine Bh (fn:=f8) rfl rfl ?_
 have p1:=Blg b t hb.len
 have p2:=Bpb b hf
 unfold Xa
 cases hk:Jy b with
 |false=>
  rw[hk] at p2
  simp[Ch,-List.getD_eq_getElem?_getD,-List.map_map,f8,p1,p2,Sv]
 |true=>
  rw[hk] at p2
  have hO:=(F4 b).1 hk
  rw[Sn hO] at p1
  unfold Bz
  cases h:Fh b.ents t with
  |false=>
   rw[h] at p1
   simp[Ch,-List.getD_eq_getElem?_getD,-List.map_map,f8,p1,p2,Sv]
  |true=>
   rw[h] at p1
   have hl:=Kl h
   have c: (Ga b.ents t:Int)< (b.ents.length:Int):=by omega
   have c0: (0:Int)≤(Ga b.ents t:Int):=by omega
   have c1: ¬ (Ga b.ents t:Int)<0:=by omega
   have g:=Gy b.ents (Ga b.ents t) hl
   have p3:=Bw6 (b.ents.getD (Ga b.ents t) default) (hb.each _ (Jp hl))
   simp[Ch,-List.getD_eq_getElem?_getD,-List.map_map,f8,p1,p2,p3,hl,c,c0,c1,g]
theorem p_9 (b:Ba) (t:Bq) (hb:BaSm b) (hf:BaFit b):Bc (ev R) 9 [.d (Db b), .d (.str t)]=some (.tup [.d (F3 (Xa b t).1), .d (.bool (Xa b t).2)]):=Bb fun H=>by
 refine Bh (fn:=f9) rfl rfl ?_
 have p1:=Bpc b t hb.len
 have p2:=Bw5 b hf
 have p3:=Jd b t hb
 unfold Xa
 cases hk:Jy b with
 |false=>
  rw[hk] at p2
  simp[Ch,-List.getD_eq_getElem?_getD,-List.map_map,f9,p1,p2,Sv]
 |true=>
  rw[hk] at p2
  cases h:Fh b.ents t with
  |false=>rw[h] at p1;simp[Ch,-List.getD_eq_getElem?_getD,-List.map_map,f9,p1,p2,p3,Sv]
  |true=>rw[h] at p1;simp[Ch,-List.getD_eq_getElem?_getD,-List.map_map,f9,p1,p2,p3]
theorem B91 (b:Ba) (t:Bq) (hb:BaSm b) (hf:BaFit b):Bc (ev R) 13 [.d (Db b), .d (.str t)]=some (.tup [.d (Db (Bmz b t).1), .d (.bool (Bmz b t).2)]):=Bb fun H=>by
 refine Bh (fn:=f13) rfl rfl ?_
 have p1:=Blg b t hb.len
 have p2:=Bpb b hf
 have p3:=Bwa b hb.len hb.each
 have hbl:=hb.len
 unfold Bmz
 cases hk:Jy b with
 |false=>
  rw[hk] at p2
  simp(maxSteps:=1000000) [Ca,-List.getD_eq_getElem?_getD,-List.map_map,f13,p1,p2,F6]
 |true=>
  rw[hk] at p2
  have hO:=(F4 b).1 hk
  rw[Sn hO] at p1
  unfold Co
  cases h:Fh b.ents t with
  |false=>
   rw[h] at p1
   simp(maxSteps:=1000000) [Ca,-List.getD_eq_getElem?_getD,-List.map_map,f13,p1,p2,p3]
  |true=>
   rw[h] at p1
   have hl:=Kl h
   generalize Ga b.ents t=k at*
   have c1: ¬ (k:Int)<0:=by omega
   have w1:IntKind.i64.wrap ((k:Int)+1)=(k:Int)+1:=IntWalk.i64_in _ (by omega)
   have p4:=fun (H:Hp) (r:Nat) hr=>B2v H r ((b.ents.map F3).map V.d) k hr (by simp) (by simpa using hl) (by simpa using hbl)
   simp only[List.length_map] at p4
   obtain⟨DX,hDX⟩: ∃x,x=List.take k (List.map V.d (List.map F3 b.ents))++(List.drop (k+1) (List.map V.d (List.map F3 b.ents))++[enZ]):=⟨_,rfl⟩
   have dl:DX.length=b.ents.length:=by rw[hDX];simp;omega
   have dk:=Ms b.ents k hl
   have dt:DX.take (b.ents.length - 1)=List.map V.d (List.map F3 (Gx b.ents k)):=by
    rw[hDX,←List.append_assoc,Xh,List.take_append_of_le_length (by simp[dk]),List.take_of_length_le (by simp[dk])]
   rw[←hDX] at p4
   have r1: (b.ents.length - 1)*120≤Cq:=by unfold Cq;omega
   have d1:b.ents.length - 1≤b.ents.length:=by omega
   simp(maxSteps:=1000000) [Ca,-List.getD_eq_getElem?_getD,-List.map_map,f13,p1,p2,p3,p4,c1,w1,dl,dt,dk,r1,d1]
def Zt (s:Bq):Re:= .mk 1 0 s [] []
def Lv (n:Int):Re:= .mk 2 n [] [] []
def P5 (s:Bq):Re:= .mk 3 0 s [] []
def Qx:Re:= .mk 4 0 [] [] []
def Tp:Re:= .mk 0 0 [] [] []
theorem B92 (s:Bq):Bc (ev R) 32 [.d (.str s)]=some (.d (P7 (Zt s))):=Bb fun H=>by
 refine Bh (fn:=f32) rfl rfl ?_
 simp[Ch,-List.getD_eq_getElem?_getD,-List.map_map,f32,Zt]
theorem B0y (n:Int):Bc (ev R) 78 [.d (.int .i64 n)]=some (.d (P7 (Lv n))):=Bb fun H=>by
 refine Bh (fn:=f78) rfl rfl ?_
 simp[Ch,-List.getD_eq_getElem?_getD,-List.map_map,f78,Lv]
theorem B6n (s:Bq):Bc (ev R) 84 [.d (.str s)]=some (.d (P7 (P5 s))):=Bb fun H=>by
 refine Bh (fn:=f84) rfl rfl ?_
 simp[Ch,-List.getD_eq_getElem?_getD,-List.map_map,f84,P5]
theorem Caa (s:Bq) (t:Bool):Bc (ev R) 75 [.d (.str s), .d (.bool t)]=some (.d (P7 (if t=true then P5 s else Qx))):=Bb fun H=>by
 refine Bh (fn:=f75) rfl rfl ?_
 have p:=B6n s
 cases t
 ·simp[Ch,-List.getD_eq_getElem?_getD,-List.map_map,f75,p,Qx]
 ·simp[Ch,-List.getD_eq_getElem?_getD,-List.map_map,f75,p,Qx]
def dC (b:Ba) (a:D) (nu:V) (z:Bool) (e:En):List V:=[.d (.int .i64 b.now), .d (Lu b.ents), .d a,nu, .d (.str e.key), .d (.int .i64 e.till), .d (.int .i64 e.kind), .d (.str e.text),(bif z then .nils 1 else .d (Bf e.list)),(bif z then .nils 2 else .d (Dj e.scores)),(bif z then .nils 2 else .d (Fw e.fields))]
def dD (b:Ba) (a nu:D) (e:En):D:= .rptr [.int .i64 b.now,Lu b.ents,a,nu, .str e.key, .int .i64 e.till, .int .i64 e.kind, .str e.text,Bf e.list,Dj e.scores,Fw e.fields]
def dO (b:Ba) (a:D) (nu:V) (z:Bool) (e:En):Ev.Obj:= .row 0 11 [.agg (dC b a nu z e)]
def zOk (z:Bool) (e:En):Prop:=z=true→e.list=[]∧e.scores=[]∧e.fields=[]
theorem B0x (b:Ba) (w t:Bq) (r:List D) (nu:D) (e:En) (hb:b.ents.length≤1000000):Bc (ev R) 76 [.d (dD b (.vals 1 (.str w:: .str t::r)) nu e)]=some (.d (.bool (decide (0≤aV b.ents t)))):=Bb fun H=>by
 refine Bh (fn:=f76) rfl rfl ?_
 have p:=Blg b t hb
 have q: (1:Int)< (r.length:Int)+1+1:=by omega
 simp(maxSteps:=1000000) [Ca,-List.getD_eq_getElem?_getD,-List.map_map,f76,p,dD,q]
def eDo (b:Ba) (t:Bq) (k:Int):En:=if Fh b.ents t=true then Bz b t else⟨t,0,k,[],[],[],[]⟩
theorem Brv (b:Ba) (t:Bq) (k:Int):zOk (!Fh b.ents t) (eDo b t k):=by
 intro h
 unfold eDo
 rw[Bool.not_eq_true'] at h
 simp[h]
def Bgr (c:Nat) (o:Ev.Obj) (b':Ba) (rp:Re):Prop:=∃cs:List V,∀X r,r<Be X→ev R c [.ptr r 0 0 0] (oh X r o [])=some (.d (P7 rp),Bw X r (.row 0 11 [.agg (.d (.int .i64 b'.now):: .d (Lu b'.ents)::cs)]))
theorem Yk {c:Nat} {o:Ev.Obj} {b':Ba} {rp:Re} (hc:Bgr c o b' rp) (H:Hp): ∃cs:List V,∀ (i:Nat) (l:Hp),Ce l i=some o→ev R c [.ptr (Be H+i) 0 0 0] (ap H l)=some (.d (P7 rp),ap H (Bw l i (.row 0 11 [.agg (.d (.int .i64 b'.now):: .d (Lu b'.ents)::cs)]))):=by
 obtain⟨cs,hc⟩:=hc
 refine⟨cs,fun i l h=> ?_⟩
 have h1:Ce (ap H l) (Be H+i)=some o:=by rw[Mm,h]
 have h2:=hc (ap H l) (Be H+i) (Ff h1)
 rw[←Bsl _ _ _ h1] at h2
 rw[h2,Rn]
theorem B7p {b:Ba} {W t:Bq} {k:Int} {c:Nat} {rp:Re} {b':Ba} (hW:Ev.Bc9 (.str W) Lm Lp=some (some (Dq [75] k (.fn (.func c) [])))) (hO:BaO b) (ht:1≤t.length∧t.length≤12) (hk:k=0∨Fh b.ents t=false∨(Bz b t).kind=k)
  (hc:Bgr c (dO b (.vals 1 [.str W, .str t]) (.nils 1) (!Fh b.ents t) (eDo b t k)) b' rp):
  Bc (ev R) 33 [.d (Db b), .d (.vals 1 [.str W, .str t])]=some (.tup [.d (Db b'), .d (P7 rp)]):=Bb fun H=>by
 refine Bh (fn:=f33) rfl rfl ?_
 have hb:=hO.g.sm
 have hf:=hO.g.fit
 have p0:=B0w
 have p1:=B22 k (.fn (.func c) []) W t
 have p2:=B73 k (.fn (.func c) [])
 have p3:Bc (ev R) 57 [.d (.str t)]=some (.d (.bool (F7 t))):=Bb (cl:=ev R) fun H=>Bc8 H t
 have hkv:F7 t=true:=by unfold F7;simp;omega
 rw[hkv] at p3
 have p4:=Blg b t hb.len
 have p5:=Bpg b hb
 have p5n:=Beh b hb
 have p6:=p_8 b t hb hf
 obtain⟨cs,hc'⟩:=Yk hc H
 unfold Xa at p6
 rw[Sn hO] at p4
 rw[(F4 b).2 hO] at p6
 simp only[Dq,dO,dC] at hW hc'
 unfold eDo at hc'
 cases h:Fh b.ents t with
 |false=>
  rw[h] at p4 p6 hc'
  simp only[Bool.false_eq_true,if_false,and_false,Bool.not_false,cond_true] at p4 p6 hc'
  simp(maxSteps:=1000000) [Ca,-List.getD_eq_getElem?_getD,-List.map_map,f33,p0,p1,p2,p3,p4,p5,p5n,p6,hW,hc',Mh,Mi,M3]
  rw[Bt]
  generalize hFl10:Bg (Bp (ev R) R.glob (Be H) Bg G5) [1,2,4,5,6,8]=Fl10
  simp(maxSteps:=1000000) [Ca,-List.getD_eq_getElem?_getD,-List.map_map,G5,p0,p1,p2,p3,p4,p5,p5n,p6,hW,hc',Mh,Mi,M3]
  rw[←hFl10,Bt]
  generalize hFl11:Bg (Bp (ev R) R.glob (Be H) Bg G5) [1,2,4,5,6,8]=Fl11
  simp(maxSteps:=1000000) [Ca,-List.getD_eq_getElem?_getD,-List.map_map,G5,p0,p1,p2,p3,p4,p5,p5n,p6,hW,hc',Mh,Mi,M3]
  rw[Bt]
  generalize hFl00:Bg (Bp (ev R) R.glob (Be H) Bg Gz) [1,2,4,5,6,10,11]=Fl00
  simp(maxSteps:=1000000) [Ca,-List.getD_eq_getElem?_getD,-List.map_map,Gz,p0,p1,p2,p3,p4,p5,p5n,p6,hW,hc',Mh,Mi,M3]
  rw[←hFl00,Bt]
  generalize hFl01:Bg (Bp (ev R) R.glob (Be H) Bg Gz) [1,2,4,5,6,10,11]=Fl01
  simp(maxSteps:=1000000) [Ca,-List.getD_eq_getElem?_getD,-List.map_map,Gz,p0,p1,p2,p3,p4,p5,p5n,p6,hW,hc',Mh,Mi,M3]
 |true=>
  rw[h] at p4 p6 hc'
  simp only[if_true,and_true,Bool.not_true,cond_false] at p4 p6 hc'
  have hl:=Kl h
  have c1: ¬ (Ga b.ents t:Int)<0:=by omega
  have c2: (Ga b.ents t:Int)≥0:=by omega
  have g:=Gy b.ents (Ga b.ents t) hl
  have hg:b.ents.getD (Ga b.ents t) default=Bz b t:=by unfold Bz;rw[if_pos h]
  rw[hg] at g
  by_cases hz:k=0
  ·subst hz
   simp(maxSteps:=1000000) [Ca,-List.getD_eq_getElem?_getD,-List.map_map,f33,p0,p1,p2,p3,p4,p5,p5n,p6,hW,hc',Mh,Mi,M3,hl,c1,c2,g]
   rw[Bt]
   generalize hFl10:Bg (Bp (ev R) R.glob (Be H) Bg G5) [1,2,4,5,6,8]=Fl10
   simp(maxSteps:=1000000) [Ca,-List.getD_eq_getElem?_getD,-List.map_map,G5,p0,p1,p2,p3,p4,p5,p5n,p6,hW,hc',Mh,Mi,M3,hl,c1,c2,g]
   rw[←hFl10,Bt]
   generalize hFl11:Bg (Bp (ev R) R.glob (Be H) Bg G5) [1,2,4,5,6,8]=Fl11
   simp(maxSteps:=1000000) [Ca,-List.getD_eq_getElem?_getD,-List.map_map,G5,p0,p1,p2,p3,p4,p5,p5n,p6,hW,hc',Mh,Mi,M3,hl,c1,c2,g]
   rw[Bt]
   generalize hFl00:Bg (Bp (ev R) R.glob (Be H) Bg Gz) [1,2,4,5,6,10,11]=Fl00
   simp(maxSteps:=1000000) [Ca,-List.getD_eq_getElem?_getD,-List.map_map,Gz,p0,p1,p2,p3,p4,p5,p5n,p6,hW,hc',Mh,Mi,M3,hl,c1,c2,g]
   rw[←hFl00,Bt]
   generalize hFl01:Bg (Bp (ev R) R.glob (Be H) Bg Gz) [1,2,4,5,6,10,11]=Fl01
   simp(maxSteps:=1000000) [Ca,-List.getD_eq_getElem?_getD,-List.map_map,Gz,p0,p1,p2,p3,p4,p5,p5n,p6,hW,hc',Mh,Mi,M3,hl,c1,c2,g]
  ·have hk: (Bz b t).kind=k:=by
    rcases hk with hk|hk|hk
    ·exact absurd hk hz
    ·rw[h] at hk;simp at hk
    ·exact hk
   simp(maxSteps:=1000000) [Ca,-List.getD_eq_getElem?_getD,-List.map_map,f33,p0,p1,p2,p3,p4,p5,p5n,p6,hW,hc',Mh,Mi,M3,hl,c1,c2,g]
   rw[Bt]
   generalize hFl10:Bg (Bp (ev R) R.glob (Be H) Bg G5) [1,2,4,5,6,8]=Fl10
   simp(maxSteps:=1000000) [Ca,-List.getD_eq_getElem?_getD,-List.map_map,G5,p0,p1,p2,p3,p4,p5,p5n,p6,hW,hc',Mh,Mi,M3,hl,c1,c2,g,hk,hz]
   rw[←hFl10,Bt]
   generalize hFl11:Bg (Bp (ev R) R.glob (Be H) Bg G5) [1,2,4,5,6,8]=Fl11
   simp(maxSteps:=1000000) [Ca,-List.getD_eq_getElem?_getD,-List.map_map,G5,p0,p1,p2,p3,p4,p5,p5n,p6,hW,hc',Mh,Mi,M3,hl,c1,c2,g,hk,hz]
   rw[Bt]
   generalize hFl00:Bg (Bp (ev R) R.glob (Be H) Bg Gz) [1,2,4,5,6,10,11]=Fl00
   simp(maxSteps:=1000000) [Ca,-List.getD_eq_getElem?_getD,-List.map_map,Gz,p0,p1,p2,p3,p4,p5,p5n,p6,hW,hc',Mh,Mi,M3,hl,c1,c2,g]
   rw[←hFl00,Bt]
   generalize hFl01:Bg (Bp (ev R) R.glob (Be H) Bg Gz) [1,2,4,5,6,10,11]=Fl01
   simp(maxSteps:=1000000) [Ca,-List.getD_eq_getElem?_getD,-List.map_map,Gz,p0,p1,p2,p3,p4,p5,p5n,p6,hW,hc',Mh,Mi,M3,hl,c1,c2,g]
theorem B2e {b:Ba} {W t:Bq} {c:Nat} {rp:Re} {b':Ba} (hW:Ev.Bc9 (.str W) Lm Lp=some (some (Dq [75,43] 0 (.fn (.func c) [])))) (hO:BaO b) (ht:1≤t.length∧t.length≤12)
  (hc:Bgr c (dO b (.vals 1 [.str W, .str t]) (.nils 1) (!Fh b.ents t) (eDo b t 0)) b' rp):
  Bc (ev R) 33 [.d (Db b), .d (.vals 1 [.str W, .str t])]=some (.tup [.d (Db b'), .d (P7 rp)]):=Bb fun H=>by
 refine Bh (fn:=f33) rfl rfl ?_
 have hb:=hO.g.sm
 have hf:=hO.g.fit
 have p0:=B0w
 have p1:=B0g 0 (.fn (.func c) []) W t
 have p2:=B3i 0 (.fn (.func c) [])
 have p3:Bc (ev R) 57 [.d (.str t)]=some (.d (.bool (F7 t))):=Bb (cl:=ev R) fun H=>Bc8 H t
 have htv:F7 t=true:=by unfold F7;simp;omega
 rw[htv] at p3
 have p4:=Blg b t hb.len
 have p5:=Bpg b hb
 have p5n:=Beh b hb
 have p6:=p_8 b t hb hf
 obtain⟨cs,hc'⟩:=Yk hc H
 unfold Xa at p6
 rw[Sn hO] at p4
 rw[(F4 b).2 hO] at p6
 simp only[Dq,dO,dC] at hW hc'
 unfold eDo at hc'
 cases h:Fh b.ents t with
 |false=>
  rw[h] at p4 p6 hc'
  simp only[Bool.false_eq_true,if_false,and_false,Bool.not_false,cond_true] at p4 p6 hc'
  have hl:True:=trivial
  have c1:True:=trivial
  have c2:True:=trivial
  have g:True:=trivial
  simp(maxSteps:=1000000) [Ca,-List.getD_eq_getElem?_getD,-List.map_map,f33,p0,p1,p2,p3,p4,p5,p5n,p6,hW,hc',Mh,Mi,M3,Rl,hl,c1,c2,g]
  rw[Bt]
  generalize hFl10:Bg (Bp (ev R) R.glob (Be H) Bg G5) [1,2,4,5,6,8]=Fl10
  simp(maxSteps:=1000000) [Ca,-List.getD_eq_getElem?_getD,-List.map_map,G5,p0,p1,p2,p3,p4,p5,p5n,p6,hW,hc',Mh,Mi,M3,Rl,hl,c1,c2,g]
  rw[←hFl10,Bt]
  generalize hFl11:Bg (Bp (ev R) R.glob (Be H) Bg G5) [1,2,4,5,6,8]=Fl11
  simp(maxSteps:=1000000) [Ca,-List.getD_eq_getElem?_getD,-List.map_map,G5,p0,p1,p2,p3,p4,p5,p5n,p6,hW,hc',Mh,Mi,M3,Rl,hl,c1,c2,g]
  rw[Bt]
  generalize hFl00:Bg (Bp (ev R) R.glob (Be H) Bg Gz) [1,2,4,5,6,10,11]=Fl00
  simp(maxSteps:=1000000) [Ca,-List.getD_eq_getElem?_getD,-List.map_map,Gz,p0,p1,p2,p3,p4,p5,p5n,p6,hW,hc',Mh,Mi,M3,Rl,hl,c1,c2,g]
  rw[←hFl00,Bt]
  generalize hFl01:Bg (Bp (ev R) R.glob (Be H) Bg Gz) [1,2,4,5,6,10,11]=Fl01
  simp(maxSteps:=1000000) [Ca,-List.getD_eq_getElem?_getD,-List.map_map,Gz,p0,p1,p2,p3,p4,p5,p5n,p6,hW,hc',Mh,Mi,M3,Rl,hl,c1,c2,g]
 |true=>
  rw[h] at p4 p6 hc'
  simp only[if_true,and_true,Bool.not_true,cond_false] at p4 p6 hc'
  have hl:=Kl h
  have c1: ¬ (Ga b.ents t:Int)<0:=by omega
  have c2: (Ga b.ents t:Int)≥0:=by omega
  have g:=Gy b.ents (Ga b.ents t) hl
  have hg:b.ents.getD (Ga b.ents t) default=Bz b t:=by unfold Bz;rw[if_pos h]
  rw[hg] at g
  simp(maxSteps:=1000000) [Ca,-List.getD_eq_getElem?_getD,-List.map_map,f33,p0,p1,p2,p3,p4,p5,p5n,p6,hW,hc',Mh,Mi,M3,Rl,hl,c1,c2,g]
  rw[Bt]
  generalize hFl10:Bg (Bp (ev R) R.glob (Be H) Bg G5) [1,2,4,5,6,8]=Fl10
  simp(maxSteps:=1000000) [Ca,-List.getD_eq_getElem?_getD,-List.map_map,G5,p0,p1,p2,p3,p4,p5,p5n,p6,hW,hc',Mh,Mi,M3,Rl,hl,c1,c2,g]
  rw[←hFl10,Bt]
  generalize hFl11:Bg (Bp (ev R) R.glob (Be H) Bg G5) [1,2,4,5,6,8]=Fl11
  simp(maxSteps:=1000000) [Ca,-List.getD_eq_getElem?_getD,-List.map_map,G5,p0,p1,p2,p3,p4,p5,p5n,p6,hW,hc',Mh,Mi,M3,Rl,hl,c1,c2,g]
  rw[Bt]
  generalize hFl00:Bg (Bp (ev R) R.glob (Be H) Bg Gz) [1,2,4,5,6,10,11]=Fl00
  simp(maxSteps:=1000000) [Ca,-List.getD_eq_getElem?_getD,-List.map_map,Gz,p0,p1,p2,p3,p4,p5,p5n,p6,hW,hc',Mh,Mi,M3,Rl,hl,c1,c2,g]
  rw[←hFl00,Bt]
  generalize hFl01:Bg (Bp (ev R) R.glob (Be H) Bg Gz) [1,2,4,5,6,10,11]=Fl01
  simp(maxSteps:=1000000) [Ca,-List.getD_eq_getElem?_getD,-List.map_map,Gz,p0,p1,p2,p3,p4,p5,p5n,p6,hW,hc',Mh,Mi,M3,Rl,hl,c1,c2,g]
theorem B2f {b:Ba} {W t s:Bq} {c:Nat} {rp:Re} {b':Ba} (hW:Ev.Bc9 (.str W) Lm Lp=some (some (Dq [75,84] 0 (.fn (.func c) [])))) (hO:BaO b) (ht:1≤t.length∧t.length≤12)
  (hc:Bgr c (dO b (.vals 1 [.str W, .str t, .str s]) (.nils 1) (!Fh b.ents t) (eDo b t 0)) b' rp):
  Bc (ev R) 33 [.d (Db b), .d (.vals 1 [.str W, .str t, .str s])]=some (.tup [.d (Db b'), .d (P7 rp)]):=Bb fun H=>by
 refine Bh (fn:=f33) rfl rfl ?_
 have hb:=hO.g.sm
 have hf:=hO.g.fit
 have p0:=B0w
 have p1:=B0h 0 (.fn (.func c) []) W t s
 have p2:=B3j 0 (.fn (.func c) [])
 have p2b:=B3k 0 (.fn (.func c) [])
 have p3:Bc (ev R) 57 [.d (.str t)]=some (.d (.bool (F7 t))):=Bb (cl:=ev R) fun H=>Bc8 H t
 have htv:F7 t=true:=by unfold F7;simp;omega
 rw[htv] at p3
 have p4:=Blg b t hb.len
 have p5:=Bpg b hb
 have p5n:=Beh b hb
 have p6:=p_8 b t hb hf
 obtain⟨cs,hc'⟩:=Yk hc H
 unfold Xa at p6
 rw[Sn hO] at p4
 rw[(F4 b).2 hO] at p6
 simp only[Dq,dO,dC] at hW hc'
 unfold eDo at hc'
 cases h:Fh b.ents t with
 |false=>
  rw[h] at p4 p6 hc'
  simp only[Bool.false_eq_true,if_false,and_false,Bool.not_false,cond_true] at p4 p6 hc'
  have hl:True:=trivial
  have c1:True:=trivial
  have c2:True:=trivial
  have g:True:=trivial
  simp(maxSteps:=1000000) [Ca,-List.getD_eq_getElem?_getD,-List.map_map,f33,p0,p1,p2,p3,p4,p5,p5n,p6,hW,hc',Mh,Mi,M3,Rl,p2b,hl,c1,c2,g]
  rw[Bt]
  generalize hFl10:Bg (Bp (ev R) R.glob (Be H) Bg G5) [1,2,4,5,6,8]=Fl10
  simp(maxSteps:=1000000) [Ca,-List.getD_eq_getElem?_getD,-List.map_map,G5,p0,p1,p2,p3,p4,p5,p5n,p6,hW,hc',Mh,Mi,M3,Rl,p2b,hl,c1,c2,g]
  rw[←hFl10,Bt]
  generalize hFl11:Bg (Bp (ev R) R.glob (Be H) Bg G5) [1,2,4,5,6,8]=Fl11
  simp(maxSteps:=1000000) [Ca,-List.getD_eq_getElem?_getD,-List.map_map,G5,p0,p1,p2,p3,p4,p5,p5n,p6,hW,hc',Mh,Mi,M3,Rl,p2b,hl,c1,c2,g]
  rw[←hFl11,Bt]
  generalize hFl12:Bg (Bp (ev R) R.glob (Be H) Bg G5) [1,2,4,5,6,8]=Fl12
  simp(maxSteps:=1000000) [Ca,-List.getD_eq_getElem?_getD,-List.map_map,G5,p0,p1,p2,p3,p4,p5,p5n,p6,hW,hc',Mh,Mi,M3,Rl,p2b,hl,c1,c2,g]
  rw[Bt]
  generalize hFl00:Bg (Bp (ev R) R.glob (Be H) Bg Gz) [1,2,4,5,6,10,11]=Fl00
  simp(maxSteps:=1000000) [Ca,-List.getD_eq_getElem?_getD,-List.map_map,Gz,p0,p1,p2,p3,p4,p5,p5n,p6,hW,hc',Mh,Mi,M3,Rl,p2b,hl,c1,c2,g]
  rw[←hFl00,Bt]
  generalize hFl01:Bg (Bp (ev R) R.glob (Be H) Bg Gz) [1,2,4,5,6,10,11]=Fl01
  simp(maxSteps:=1000000) [Ca,-List.getD_eq_getElem?_getD,-List.map_map,Gz,p0,p1,p2,p3,p4,p5,p5n,p6,hW,hc',Mh,Mi,M3,Rl,p2b,hl,c1,c2,g]
  rw[←hFl01,Bt]
  generalize hFl02:Bg (Bp (ev R) R.glob (Be H) Bg Gz) [1,2,4,5,6,10,11]=Fl02
  simp(maxSteps:=1000000) [Ca,-List.getD_eq_getElem?_getD,-List.map_map,Gz,p0,p1,p2,p3,p4,p5,p5n,p6,hW,hc',Mh,Mi,M3,Rl,p2b,hl,c1,c2,g]
 |true=>
  rw[h] at p4 p6 hc'
  simp only[if_true,and_true,Bool.not_true,cond_false] at p4 p6 hc'
  have hl:=Kl h
  have c1: ¬ (Ga b.ents t:Int)<0:=by omega
  have c2: (Ga b.ents t:Int)≥0:=by omega
  have g:=Gy b.ents (Ga b.ents t) hl
  have hg:b.ents.getD (Ga b.ents t) default=Bz b t:=by unfold Bz;rw[if_pos h]
  rw[hg] at g
  simp(maxSteps:=1000000) [Ca,-List.getD_eq_getElem?_getD,-List.map_map,f33,p0,p1,p2,p3,p4,p5,p5n,p6,hW,hc',Mh,Mi,M3,Rl,p2b,hl,c1,c2,g]
  rw[Bt]
  generalize hFl10:Bg (Bp (ev R) R.glob (Be H) Bg G5) [1,2,4,5,6,8]=Fl10
  simp(maxSteps:=1000000) [Ca,-List.getD_eq_getElem?_getD,-List.map_map,G5,p0,p1,p2,p3,p4,p5,p5n,p6,hW,hc',Mh,Mi,M3,Rl,p2b,hl,c1,c2,g]
  rw[←hFl10,Bt]
  generalize hFl11:Bg (Bp (ev R) R.glob (Be H) Bg G5) [1,2,4,5,6,8]=Fl11
  simp(maxSteps:=1000000) [Ca,-List.getD_eq_getElem?_getD,-List.map_map,G5,p0,p1,p2,p3,p4,p5,p5n,p6,hW,hc',Mh,Mi,M3,Rl,p2b,hl,c1,c2,g]
  rw[←hFl11,Bt]
  generalize hFl12:Bg (Bp (ev R) R.glob (Be H) Bg G5) [1,2,4,5,6,8]=Fl12
  simp(maxSteps:=1000000) [Ca,-List.getD_eq_getElem?_getD,-List.map_map,G5,p0,p1,p2,p3,p4,p5,p5n,p6,hW,hc',Mh,Mi,M3,Rl,p2b,hl,c1,c2,g]
  rw[Bt]
  generalize hFl00:Bg (Bp (ev R) R.glob (Be H) Bg Gz) [1,2,4,5,6,10,11]=Fl00
  simp(maxSteps:=1000000) [Ca,-List.getD_eq_getElem?_getD,-List.map_map,Gz,p0,p1,p2,p3,p4,p5,p5n,p6,hW,hc',Mh,Mi,M3,Rl,p2b,hl,c1,c2,g]
  rw[←hFl00,Bt]
  generalize hFl01:Bg (Bp (ev R) R.glob (Be H) Bg Gz) [1,2,4,5,6,10,11]=Fl01
  simp(maxSteps:=1000000) [Ca,-List.getD_eq_getElem?_getD,-List.map_map,Gz,p0,p1,p2,p3,p4,p5,p5n,p6,hW,hc',Mh,Mi,M3,Rl,p2b,hl,c1,c2,g]
  rw[←hFl01,Bt]
  generalize hFl02:Bg (Bp (ev R) R.glob (Be H) Bg Gz) [1,2,4,5,6,10,11]=Fl02
  simp(maxSteps:=1000000) [Ca,-List.getD_eq_getElem?_getD,-List.map_map,Gz,p0,p1,p2,p3,p4,p5,p5n,p6,hW,hc',Mh,Mi,M3,Rl,p2b,hl,c1,c2,g]
theorem Bw1 {xs:List Bq} (h: ∀x∈xs,x.length≤40):Fy (Km xs) xs.length 0=none:=by
 cases hr:Fy (Km xs) xs.length 0 with
 |none=>rfl
 |some j=>
  have h2:=Ri hr
  have h3:j<xs.length:=by omega
  have h4:=h2.2.2.1
  have h5:=h _ (Jp (d:=[]) h3)
  unfold Km at h4
  simp only[decide_eq_true_eq] at h4
  omega
theorem Bw7 (xs:List Bq) (h1:1≤xs.length∧xs.length≤8) (h2: ∀x∈xs,x.length≤40):Bc (ev R) 31 [.d (Bf xs)]=some (.d (.bool true)):=Bb fun H=>by
 have hx:xs.length≤9223372036854775807:=by omega
 have p:Bc (ev R) 53 [.d (Bf xs), .d (.int .i64 8)]=some (.d (.bool true)):=Bb fun H=>by
  refine Bh (fn:=f53) rfl rfl ?_
  obtain⟨e',he,h1',h2'⟩:=B0n (Be H) xs hx 8 H xs.length 0 [(0, .d (Bf xs)),(1, .d (.int .i64 8)),(7, .d (Bf xs)),(8, .d (.int .i64 xs.length)),(9, .d (.int .i64 0))] (by omega) rfl rfl rfl rfl rfl
  have hr:=Bw1 h2
  simp only[hr] at he
  obtain⟨h3,h4⟩:=h2' hr
  have q: (xs.length:Int)≤8:=by omega
  simp[Cm,-List.getD_eq_getElem?_getD,-List.map_map,f53,he,h3,h4,hr,Bf,q]
 have c: (0:Int)< (xs.length:Int):=by omega
 refine Bh (fn:=f31) rfl rfl ?_
 simp only[Bf] at p
 have c2:0<xs.length:=by omega
 simp[Cm,-List.getD_eq_getElem?_getD,-List.map_map,f31,Bf,p,c,c2]
theorem B0t {b b':Ba} {rp:Re} {xs:List Bq} (hO:BaO b) (hb':BaSm b') (h1:1≤xs.length∧xs.length≤8) (h2: ∀x∈xs,x.length≤40) (hr:rp.texts.length≤1000000) (hd:Bc (ev R) 33 [.d (Db b), .d (Bf xs)]=some (.tup [.d (Db b'), .d (P7 rp)])):
  Bc (ev R) 11 [.d (Db b), .d (Bf xs)]=some (.tup [.d (Db (if rp.kind=1 then b else b')), .d (P7 rp)]):=Bb fun H=>by
 refine Bh (fn:=f11) rfl rfl ?_
 have hb:=hO.g.sm
 have p1:=Bpb b hO.g.fit
 rw[(F4 b).2 hO] at p1
 have p2:=Bw7 xs h1 h2
 have p3:=Bpg b hb
 have p3n:=Beh b hb
 have p4:=Bpg b' hb'
 have p4n:=Beh b' hb'
 have p5:=B6j rp.texts hr
 have p5n:=Bzl rp.texts hr
 simp only[Bf] at p2 hd p5 p5n
 obtain⟨k,n,t,l,m⟩:=rp
 simp only[Re.kind,Re.texts] at hr p5 p5n⊢
 by_cases hk:k=1
 ·simp(maxSteps:=1000000) [Ca,-List.getD_eq_getElem?_getD,-List.map_map,f11,p1,p2,p3,p3n,p4,p4n,p5,p5n,hd,hk,Bf,Y7,Wq,Bga,Re.kind,Re.num,Re.text,Re.texts,Re.many]
 ·simp(maxSteps:=1000000) [Ca,-List.getD_eq_getElem?_getD,-List.map_map,f11,p1,p2,p3,p3n,p4,p4n,p5,p5n,hd,hk,Bf,Y7,Wq,Bga,Re.kind,Re.num,Re.text,Re.texts,Re.many]
theorem Bwz {k:Nat} {xs:List V} {v:V} {o o':Ev.Obj} (h: ∀X r,r<Be X→ev R k (.ptr r 0 0 0::xs) (oh X r o [])=some (v,Bw X r o')) (X:Hp) (r:Nat) (hr:r<Be X) (l:Hp):ev R k (.ptr r 0 0 0::xs) (oh X r o l)=some (v,oh X r o' l):=by
 have h1:=Zp X l r o hr
 have h2:=h (oh X r o l) r (by rw[Ka];omega)
 rw[←Bsl _ _ _ h1] at h2
 rw[h2,Baq X l r o hr]
def DoesO (c:Nat) (o o':Ev.Obj) (rp:Re):Prop:=∀X r,r<Be X→ev R c [.ptr r 0 0 0] (oh X r o [])=some (.d (P7 rp),Bw X r o')
theorem DoesO.does {c:Nat} {o:Ev.Obj} {b':Ba} {a:D} {nu:V} {z:Bool} {e:En} {rp:Re} (h:DoesO c o (dO b' a nu z e) rp):Bgr c o b' rp:=⟨_,h⟩
theorem Bfo {H:Hp} {r:Nat} {b:Ba} {a:D} {z:Bool} {e:En} (hz:zOk z e) (h:Ce H r=some (dO b a (.nils 1) z e)):fz 0 Nl H (.ptr r 0 0 0)=some (dD b a (.vals 1 []) e):=by
 cases z with
 |false=>simp[Cz,h,dO,dC,dD,fz,Nl,Gs,V.cells]
 |true=>
  obtain⟨h1,h2,h3⟩:=hz rfl
  simp[Cz,h,dO,dC,dD,fz,Nl,Gs,V.cells,h1,h2,h3,Dj,Fw]
section
variable {b:Ba} {nu:V} {z:Bool} {e:En} (a:D)
theorem Bv8:DoesO 77 (dO b a nu z e) (dO b a nu z e) (Lv e.text.length):=fun X r hr=>by
 refine Bh (fn:=f77) rfl rfl ?_
 have h0:=fun l=>Zp X l r (dO b a nu z e) hr
 have p:=fun n=>B0y n
 simp only[dO,dC] at*
 simp(maxSteps:=1000000) [Ca,Ja,Ka,J9,G9,Kb,Jb,Jc,Gh,J8,G8,Md,-List.getD_eq_getElem?_getD,-List.map_map,f77,h0,p,Lv]
theorem Bv7 {w t:Bq} {q:List D} (hz:zOk z e) (hb:b.ents.length≤1000000):DoesO 74 (dO b (.vals 1 (.str w:: .str t::q)) (.nils 1) z e) (dO b (.vals 1 (.str w:: .str t::q)) (.nils 1) z e) (if 0≤aV b.ents t then P5 e.text else Qx):=fun X r hr=>by
 refine Bh (fn:=f74) rfl rfl ?_
 have h0:=fun l=>Zp X l r (dO b (.vals 1 (.str w:: .str t::q)) (.nils 1) z e) hr
 have hv:=fun l=>Bfo hz (h0 l)
 have p1:=B0x b w t q (.vals 1 []) e hb
 have p2:=fun s x=>Caa s x
 simp only[dO,dC] at*
 simp(maxSteps:=1000000) [Ca,Ja,Ka,J9,G9,Kb,Jb,Jc,Gh,J8,G8,Md,-List.getD_eq_getElem?_getD,-List.map_map,f74,h0,hv,p1,p2]
end
end Go.Proofs.YtpajcoanfkeibaaGreatDoor.Code
