/- Lemmas (several texts in one). -/
import Derived.Test.YtjdmiodinhlchaaGreatMBasePut7
import Derived.Test.YtjdmiodinhlchaaGreatMBasePut14
import Derived.Test.YtjdmiodinhlchaaGreatMBasePut15
import Derived.Test.YtjdmiodinhlchaaGreatMBasePut20
set_option maxRecDepth 100000
set_option maxHeartbeats 4000000
set_option linter.unusedSimpArgs false
set_option linter.unusedVariables false
namespace Go.Proofs.YtjdmiodinhlchaaGreat.Code
open Go Go.Ev Go.Proofs
theorem B77 (e:En) (t:Bp):Be (ev R) 71 [.d (F6 e), .d (.rptr [.str t])]=some (.d (.bool (decide (e.key=t)))):=Bb fun H=>by
 refine Bh (fn:=f71) rfl rfl ?_
 simp(maxSteps:=1000000) [Cm,-List.getD_eq_getElem?_getD,-List.map_map,f71]
def nAt (es:List En) (t:Bp):Nat:=(es.takeWhile fun e=> !decide (e.key=t)).length
def aV (es:List En) (t:Bp):Int:=if nAt es t<es.length then(nAt es t:Int) else -1
theorem Bzh (es:List En) (t:Bp):nAt es t≤es.length:=Bh8 _ _
theorem B76 (es:List En) (t:Bp) (hx:es.length≤1000000):Be (ev R) 70 [.d (M7 es), .d (.fn (.func 71) [.rptr [.str t]])]=some (.d (.int .i64 (aV es t))):=Bb fun H=>by
 refine Bh (fn:=f70) rfl rfl ?_
 obtain⟨o,e',X',he,rfl,ho⟩:=(Dh (F:=Bq (ev R) R.glob (Bc H) Bg Bgb) (lv:=[0,1,7,8]) es.length
  (fun i e X=>X=H∧e.get 0= .d (M7 es)∧e.get 1= .d (.fn (.func 71) [.rptr [.str t]])∧e.get 7= .d (.int .i64 es.length)∧e.get 8= .d (.int .i64 i)∧i≤nAt es t)
  (fun o e X=>X=H∧((o= .exit 0∧¬nAt es t<es.length)∨(o= .ret∧nAt es t<es.length∧e.get 4= .d (.int .i64 (nAt es t)))))
  (by
   rintro e X ⟨rfl,g0,g1,g7,g8,hi⟩
   have hn:nAt es t=es.length:=Nat.le_antisymm (Bzh es t) hi
   simp[Cn,-List.getD_eq_getElem?_getD,-List.map_map,Bgb,g0,g1,g7,g8,hn])
  (by
   rintro i e X hi ⟨rfl,g0,g1,g7,g8,hk⟩
   have c: (i:Int)< (es.length:Int):=by omega
   have g:=Jk es i hi
   have w1:IntKind.i64.wrap ((i:Int)+1)=((i+1:Nat):Int):=by rw[IntWalk.i64_in _ (by omega)];rfl
   have p:=B77 (es.getD i default) t
   cases h:decide ((es.getD i default).key=t) with
   |false=>
    have hn:=Rn (fun e:En=> !decide (e.key=t)) default es i hk hi (by show(!decide ((es.getD i default).key=t))=_;rw[h];rfl)
    have hn':i+1≤nAt es t:=hn
    rw[h] at p
    simp[Cn,-List.getD_eq_getElem?_getD,-List.map_map,Bgb,g0,g1,g7,g8,c,hi,g,w1,p,hn',M7]
   |true=>
    have hn:i=nAt es t:=Ro (fun e:En=> !decide (e.key=t)) default es i hk hi (by show(!decide ((es.getD i default).key=t))=_;rw[h];rfl)
    have hl:nAt es t<es.length:=by omega
    rw[h] at p
    simp[Cn,-List.getD_eq_getElem?_getD,-List.map_map,Bgb,g0,g1,g7,g8,c,hi,g,w1,p,←hn,hl,M7])
  es.length 0 [(0, .d (M7 es)),(1, .d (.fn (.func 71) [.rptr [.str t]])),(7, .d (.int .i64 es.length)),(8, .d (.int .i64 0))] H (by omega) ⟨rfl,rfl,rfl,rfl,rfl,Nat.zero_le _⟩).out
 rcases ho with⟨rfl,hl⟩ | ⟨rfl,hl,g4⟩
 ·simp[Cn,-List.getD_eq_getElem?_getD,-List.map_map,f70,he,hl,aV,M7]
 ·simp[Cn,-List.getD_eq_getElem?_getD,-List.map_map,f70,he,hl,aV,g4,M7]
theorem Bzp (b:Ba) (t:Bp) (hx:b.ents.length≤1000000):Be (ev R) 43 [.d (Dx b), .d (.str t)]=some (.d (.int .i64 (aV b.ents t))):=Bb fun H=>by
 refine Bh (fn:=f43) rfl rfl ?_
 have p:=B76 b.ents t hx
 simp(maxSteps:=1000000) [Cm,-List.getD_eq_getElem?_getD,-List.map_map,f43,p,M7]
theorem Bs2 {α:Type} (p:α→Bool): ∀ (xs:List α),(∀x∈xs,p x=true)→xs.takeWhile p=xs
 | [],_=>rfl
 |x::r,h=>by rw[List.takeWhile_cons,if_pos (h x (by simp)),Bs2 p r fun y hy=>h y (by simp[hy])]
theorem Bqh: ∀ (es:List En) (t:Bp),(es.Pairwise fun a c=>Op.bytesLess a.key c.key=true)→(Jz es t=true→nAt es t=J2 es t∧nAt es t<es.length)∧(Jz es t=false→¬nAt es t<es.length)
 | [],t,_=>by simp[Jz,nAt]
 |x::r,t,h=>by
  have ih:=Bqh r t (List.Pairwise.of_cons h)
  unfold Jz nAt J2 at*
  rw[List.takeWhile_cons,List.takeWhile_cons]
  by_cases h1:x.key=t
  ·subst h1
   simp[G8]
  ·cases h2:Op.bytesLess x.key t with
   |true=>simpa[h1,h2] using ih
   |false=>
    have h3:=Rc h2 h1
    have h4: ∀y∈r,¬y.key=t:=fun y hy he=>by
     have:=Kr h3 (List.rel_of_pairwise_cons h hy)
     rw[he,G8] at this
     simp at this
    have h5: (r.takeWhile fun e=> !decide (e.key=t))=r:=Bs2 _ r fun y hy=>by simp[h4 y hy]
    simp[h1,h2,h5]
theorem Biw {b:Ba} (h:BaO b) (t:Bp):aV b.ents t=if Jz b.ents t=true then(J2 b.ents t:Int) else -1:=by
 have:=Bqh b.ents t h.asc
 unfold aV
 cases hk:Jz b.ents t with
 |true=>obtain⟨h1,h2⟩:=this.1 hk;rw[if_pos h2,if_pos rfl,h1]
 |false=>rw[if_neg (this.2 hk),if_neg (by simp)]
def Bqz:En:=⟨[],0,0,[],[],[],[]⟩
def Bnf (b:Ba) (t:Bp):En×Bool:=if Js b=true∧Jz b.ents t=true then(Ca b t,true) else(Bqz,false)
def Bc0 (b:Ba) (t:Bp):Ba×Bool:=if Js b=true then(Dn b t,Jz b.ents t) else(⟨0,[]⟩,false)
theorem B33 (b:Ba) (t:Bp) (hb:BaSm b) (hf:BaFit b):Be (ev R) 22 [.d (Dx b), .d (.str t)]=some (.tup [.d (F6 (Bnf b t).1), .d (.bool (Bnf b t).2)]):=Bb fun H=>by
 refine Bh (fn:=f22) rfl rfl ?_
 have p1:=Bzp b t hb.len
 have p2:=Bhd b hf
 unfold Bnf
 cases hk:Js b with
 |false=>
  rw[hk] at p2
  simp[Cn,-List.getD_eq_getElem?_getD,-List.map_map,f22,p1,p2,Bqz]
 |true=>
  rw[hk] at p2
  have hO:=(Ja b).1 hk
  rw[Biw hO] at p1
  unfold Ca
  cases h:Jz b.ents t with
  |false=>
   rw[h] at p1
   simp[Cn,-List.getD_eq_getElem?_getD,-List.map_map,f22,p1,p2,Bqz]
  |true=>
   rw[h] at p1
   have hl:=Mk h
   have c: (J2 b.ents t:Int)< (b.ents.length:Int):=by omega
   have c0: (0:Int)≤(J2 b.ents t:Int):=by omega
   have c1: ¬ (J2 b.ents t:Int)<0:=by omega
   have g:=Jk b.ents (J2 b.ents t) hl
   have p3:=Bv2 (b.ents.getD (J2 b.ents t) default) (hb.each _ (Gp hl))
   simp[Cn,-List.getD_eq_getElem?_getD,-List.map_map,f22,p1,p2,p3,hl,c,c0,c1,g]
theorem Bzo (b:Ba) (t:Bp) (hb:BaSm b) (hf:BaFit b):Be (ev R) 20 [.d (Dx b), .d (.str t)]=some (.tup [.d (Dx (Bc0 b t).1), .d (.bool (Bc0 b t).2)]):=Bb fun H=>by
 refine Bh (fn:=f20) rfl rfl ?_
 have p1:=Bzp b t hb.len
 have p2:=Bhd b hf
 have p3:=Bvh b hb.len hb.each
 have hbl:=hb.len
 unfold Bc0
 cases hk:Js b with
 |false=>
  rw[hk] at p2
  simp(maxSteps:=1000000) [Cm,-List.getD_eq_getElem?_getD,-List.map_map,f20,p1,p2,Fx]
 |true=>
  rw[hk] at p2
  have hO:=(Ja b).1 hk
  rw[Biw hO] at p1
  unfold Dn
  cases h:Jz b.ents t with
  |false=>
   rw[h] at p1
   simp(maxSteps:=1000000) [Cm,-List.getD_eq_getElem?_getD,-List.map_map,f20,p1,p2,p3]
  |true=>
   rw[h] at p1
   have hl:=Mk h
   generalize J2 b.ents t=k at*
   have c1: ¬ (k:Int)<0:=by omega
   have w1:IntKind.i64.wrap ((k:Int)+1)=(k:Int)+1:=IntWalk.i64_in _ (by omega)
   have p4:=fun (H:Hp) (r:Nat) hr=>B03 H r ((b.ents.map F6).map V.d) k hr (by simp) (by simpa using hl) (by simpa using hbl)
   simp only[List.length_map] at p4
   obtain⟨DX,hDX⟩: ∃x,x=List.take k (List.map V.d (List.map F6 b.ents))++(List.drop (k+1) (List.map V.d (List.map F6 b.ents))++[enZ]):=⟨_,rfl⟩
   have dl:DX.length=b.ents.length:=by rw[hDX];simp;omega
   have dk:=Qg b.ents k hl
   have dt:DX.take (b.ents.length - 1)=List.map V.d (List.map F6 (G6 b.ents k)):=by
    rw[hDX,←List.append_assoc,Wm,List.take_append_of_le_length (by simp[dk]),List.take_of_length_le (by simp[dk])]
   rw[←hDX] at p4
   have r1: (b.ents.length - 1)*120≤Cv:=by unfold Cv;omega
   have d1:b.ents.length - 1≤b.ents.length:=by omega
   simp(maxSteps:=1000000) [Cm,-List.getD_eq_getElem?_getD,-List.map_map,f20,p1,p2,p3,p4,c1,w1,dl,dt,dk,r1,d1]
theorem Bfd {b:Ba} (h:BaO b) (t:Bp):BaO (Dn b t):=by
 refine⟨by rw[Pb];exact h.now,Nat.le_trans (Sl b t) h.len,fun e he=>by rw[Pb];exact h.each e (Bb0 he), ?_⟩
 unfold Dn
 split
 ·refine h.asc.sublist ?_
  unfold G6
  have:=(List.Sublist.refl (b.ents.take (J2 b.ents t))).append (List.drop_sublist_drop_left b.ents (Nat.le_succ (J2 b.ents t)))
  rwa[List.take_append_drop] at this
 ·exact h.asc
theorem Tm {es:List En} (h:es.Pairwise fun a c=>Op.bytesLess a.key c.key=true) (t:Bp): (∀x∈es.take (J2 es t),Op.bytesLess x.key t=true)∧∀x∈es.drop (J2 es t),Op.bytesLess x.key t=false:=by
 induction es with
 |nil=>simp
 |cons x r ih=>
  have ih:=ih (List.Pairwise.of_cons h)
  unfold J2 at*
  rw[List.takeWhile_cons]
  cases h1:Op.bytesLess x.key t with
  |true=>
   simp only[if_true,List.length_cons,List.take_succ_cons,List.drop_succ_cons]
   refine⟨fun y hy=> ?_,ih.2⟩
   rcases List.mem_cons.1 hy with rfl|hy
   ·exact h1
   ·exact ih.1 y hy
  |false=>
   simp only[Bool.false_eq_true,if_false,List.length_nil,List.take_zero,List.drop_zero]
   refine⟨fun y hy=>by simp at hy,fun y hy=> ?_⟩
   rcases List.mem_cons.1 hy with rfl|hy
   ·exact h1
   ·cases h2:Op.bytesLess y.key t with
    |false=>rfl
    |true=>rw[Kr (List.rel_of_pairwise_cons h hy) h2] at h1;simp at h1
theorem Bre {es:List En} (h:es.Pairwise fun a c=>Op.bytesLess a.key c.key=true) {t:Bp} (hk:Jz es t=false): ∀x∈es,¬x.key=t:=by
 intro x hx he
 have hp:=Tm h t
 rw[←List.take_append_drop (J2 es t) es] at hx
 rcases List.mem_append.1 hx with hx|hx
 ·have:=hp.1 x hx
  rw[he,G8] at this
  simp at this
 ·obtain⟨y,r,hr⟩: ∃y r,es.drop (J2 es t)=y::r:=by
   cases hd:es.drop (J2 es t) with
   |nil=>rw[hd] at hx;simp at hx
   |cons y r=>exact⟨y,r,rfl⟩
  have hlt:J2 es t<es.length:=by
   have:=congrArg List.length hr
   simp at this;omega
  have hy:es.getD (J2 es t) default=y:=by
   have:=congrArg (fun l=>l.getD 0 default) hr
   simpa[List.getD_eq_getElem?_getD] using this
  have hne: ¬y.key=t:=fun hyk=>by
   unfold Jz at hk
   rw[hy] at hk
   simp[hlt,hyk] at hk
  rw[hr] at hx hp
  rcases List.mem_cons.1 hx with rfl|hx
  ·exact hne he
  ·have ha:=h.sublist (List.drop_sublist (J2 es t) es)
   rw[hr] at ha
   have h1:=List.rel_of_pairwise_cons ha hx
   rw[he] at h1
   rw[hp.2 y (by simp)] at h1
   simp at h1
theorem Xf {b:Ba} (h:BaO b) (t:Bp):Jz (Dn b t).ents t=false:=by
 unfold Dn
 cases hk:Jz b.ents t with
 |false=>simpa using hk
 |true=>
  simp only[if_true]
  have hp:=Tm h.asc t
  have hl:=Mk hk
  have hd:b.ents.drop (J2 b.ents t)=b.ents.getD (J2 b.ents t) default::b.ents.drop (J2 b.ents t+1):=by
   rw[List.drop_eq_getElem_cons hl]
   simp[List.getD_eq_getElem?_getD,hl]
  have hkey: (b.ents.getD (J2 b.ents t) default).key=t:=by
   unfold Jz at hk
   rw[Bool.and_eq_true] at hk
   exact of_decide_eq_true hk.2
  have ha:=h.asc.sublist (List.drop_sublist (J2 b.ents t) b.ents)
  rw[hd] at ha
  cases hq:Jz (G6 b.ents (J2 b.ents t)) t with
  |false=>rfl
  |true=>
   have hl2:=Mk hq
   have hm: (G6 b.ents (J2 b.ents t)).getD (J2 (G6 b.ents (J2 b.ents t)) t) default∈G6 b.ents (J2 b.ents t):=Gp hl2
   unfold Jz at hq
   rw[Bool.and_eq_true] at hq
   have he:=of_decide_eq_true hq.2
   generalize(G6 b.ents (J2 b.ents t)).getD (J2 (G6 b.ents (J2 b.ents t)) t) default=y at*
   unfold G6 at hm
   rcases List.mem_append.1 hm with hm|hm
   ·have:=hp.1 y hm
    rw[he,G8] at this
    simp at this
   ·have:=List.rel_of_pairwise_cons ha hm
    rw[hkey,he,G8] at this
    simp at this
theorem Bmi {es:List En} (h:es.Pairwise fun a c=>Op.bytesLess a.key c.key=true) {e:En} (hk:Jz es e.key=false): (D6 es (J2 es e.key) e).Pairwise fun a c=>Op.bytesLess a.key c.key=true:=by
 have hp:=Tm h e.key
 have hm:=Bre h hk
 unfold D6
 have ha:=h
 rw[←List.take_append_drop (J2 es e.key) es] at ha
 obtain⟨h1,h2,h3⟩:=List.pairwise_append.1 ha
 have hg: ∀y∈es.drop (J2 es e.key),Op.bytesLess e.key y.key=true:=fun y hy=>Rc (hp.2 y hy) (hm y (List.mem_of_mem_drop hy))
 refine List.pairwise_append.2 ⟨h1,List.pairwise_cons.2 ⟨hg,h2⟩,fun x hx y hy=> ?_⟩
 rcases List.mem_cons.1 hy with rfl|hy
 ·exact hp.1 x hx
 ·exact h3 x hx y hy
theorem Bfl (e:En):Ze false (.d (F6 e))=some (0,e.key):=rfl
theorem Bmj {es:List En} : ∀x∈(es.map F6).map V.d,(Ze false x).isSome=true:=by
 intro x hx
 obtain⟨d,hd,rfl⟩:=List.mem_map.1 hx
 obtain⟨e,he,rfl⟩:=List.mem_map.1 hd
 rfl
theorem Brg {es:List En} (h:es.Pairwise fun a c=>Op.bytesLess a.key c.key=true): ∀a∈es,∀c∈es,a.key=c.key→a=c:=by
 induction es with
 |nil=>intro a ha;simp at ha
 |cons x r ih=>
  have hr:=List.Pairwise.of_cons h
  intro a ha c hc he
  rcases List.mem_cons.1 ha with rfl|ha2
  ·rcases List.mem_cons.1 hc with rfl|hc
   ·rfl
   ·have:=List.rel_of_pairwise_cons h hc
    rw[he,G8] at this;simp at this
  ·skip
   rcases List.mem_cons.1 hc with rfl|hc
   ·have:=List.rel_of_pairwise_cons h ha2
    rw[he,G8] at this;simp at this
   ·exact ih hr a ha2 c hc he
theorem Bsv {es:List En} (h:es.Pairwise fun a c=>Op.bytesLess a.key c.key=true) {e:En} (hk:Jz es e.key=false):
  (∀a∈(es.map F6).map V.d++[V.d (F6 e)],∀c∈(es.map F6).map V.d++[V.d (F6 e)],Ze false a=Ze false c→a=c)∧Xp false ((es.map F6).map V.d++[V.d (F6 e)])=((D6 es (J2 es e.key) e).map F6).map V.d:=by
 have ha:=Bmi h hk
 have e0: (es.map F6).map V.d++[V.d (F6 e)]=((es++[e]).map F6).map V.d:=by simp
 have hperm: (D6 es (J2 es e.key) e).Perm (es++[e]):=by
  unfold D6
  refine List.perm_middle.trans ?_
  rw[List.take_append_drop]
  exact(List.perm_append_singleton e es).symm
 have hi:=Brg ha
 have hin: ∀a∈((es++[e]).map F6).map V.d,∀c∈((es++[e]).map F6).map V.d,Ze false a=Ze false c→a=c:=by
  intro a ha c hc he
  obtain⟨d,hd,rfl⟩:=List.mem_map.1 ha
  obtain⟨x,hx,rfl⟩:=List.mem_map.1 hd
  obtain⟨d,hd,rfl⟩:=List.mem_map.1 hc
  obtain⟨y,hy,rfl⟩:=List.mem_map.1 hd
  rw[Bfl,Bfl] at he
  simp only[Option.some.injEq,Prod.mk.injEq,true_and] at he
  rw[hi x (hperm.mem_iff.2 hx) y (hperm.mem_iff.2 hy) he]
 rw[e0]
 refine⟨hin,(Xq ((hperm.map F6).map V.d) ?_ Bmj hin).symm⟩
 rw[List.pairwise_map,List.pairwise_map]
 refine ha.imp fun {a c} hac=> ?_
 unfold leV
 rw[Bfl,Bfl]
 simp only[Option.getD_some,ltK,Int.lt_irrefl,decide_false,Bool.false_or,decide_true,Bool.true_and,Bool.not_eq_true']
 cases hq:Op.bytesLess c.key a.key with
 |false=>rfl
 |true=>have:=Kr hac hq;rw[G8] at this;simp at this
theorem B5f (H:Hp) (r g:Nat) (xs:List V) (hr:Ce H r=some (.row g 7 xs)) (hl:xs.length<4611686018427387904) (hk: ∀x∈xs,(Ze false x).isSome=true) (hi: ∀a∈xs,∀c∈xs,Ze false a=Ze false c→a=c):
  ev R 48 [.slc r g 0 xs.length, .d (.fn (.func 49) [])] H=some (.tup [],Bv H r (.row g 7 (Xp false xs))):=by
 refine Bvp (p:=Bd8 false 6 49) rfl ?_
 have hrow:Di H r g=some (7,xs):=by unfold Di;rw[hr];simp
 unfold Bd8
 simp only[hrow]
 rw[if_pos ⟨rfl,rfl,rfl,hl,hk,hi⟩]
def Bi2 (b:Ba) (e:En):Ba×Bool:=if Js b=true then Pd b e else(⟨0,[]⟩,false)
theorem B7y (b:Ba) (e:En) (hb:BaSm b) (hf:BaFit b) (he:EnSm e) (hq:EnFit e):Be (ev R) 26 [.d (Dx b), .d (F6 e)]=some (.tup [.d (Dx (Bi2 b e).1), .d (.bool (Bi2 b e).2)]):=Bb fun H=>by
 refine Bh (fn:=f26) rfl rfl ?_
 have p2:=Bv1 b hf
 have p3:=Bzq b e hb he hq
 unfold Bi2
 cases hk:Js b with
 |false=>rw[hk] at p2;simp[Cn,-List.getD_eq_getElem?_getD,-List.map_map,f26,p2,Fx]
 |true=>rw[hk] at p2;simp[Cn,-List.getD_eq_getElem?_getD,-List.map_map,f26,p2,p3]
def X5 (e:En):Bool:=decide (e.text=[]) &&decide (e.list=[]) &&decide (e.scores=[]) &&decide (e.fields=[])
def Bd1:ACode:=(f24.body.tl.tl.tl.tl).hd
theorem Bht (n0:Bn) (env:Env) (X:Hp) (p:Nat) (e:En) (g3:env.get 3= .ptr p 0 0 0) (hp:Ce X p=some (.row 0 7 [.d (F6 e)])):
  Gives (fun o e' X'=>o= .normal∧X'=X∧e'.get 2=env.get 2∧e'.get 3=env.get 3∧e'.get 4=env.get 4∧e'.get 6=env.get 6∧e'.get 8= .d (.bool (X5 e))) (Bq (ev R) R.glob n0 Bg Bd1 ⟨env,X⟩):=by
 unfold X5
 by_cases x1:e.text=[]
 ·by_cases x2:e.list=[]
  ·by_cases x3:e.scores=[]
   ·by_cases x4:e.fields=[]<;>simp(maxSteps:=1000000) [Cm,-List.getD_eq_getElem?_getD,-List.map_map,Bd1,f24,ACode.tl,ACode.hd,g3,hp,x1,x2,x3,x4]
   ·simp(maxSteps:=1000000) [Cm,-List.getD_eq_getElem?_getD,-List.map_map,Bd1,f24,ACode.tl,ACode.hd,g3,hp,x1,x2,x3]
  ·simp(maxSteps:=1000000) [Cm,-List.getD_eq_getElem?_getD,-List.map_map,Bd1,f24,ACode.tl,ACode.hd,g3,hp,x1,x2]
 ·simp(maxSteps:=1000000) [Cm,-List.getD_eq_getElem?_getD,-List.map_map,Bd1,f24,ACode.tl,ACode.hd,g3,hp,x1]
theorem Bjj (e:En):Qx e=(decide (e.kind≠1) &&X5 e):=by
 unfold Qx X5
 rw[Bool.and_assoc]
 congr 1
 by_cases h:e.text=[]
 ·rw[decide_eq_true h,Bool.true_and,Bool.true_and]
  cases h1:e.list<;>cases h2:e.scores<;>cases h3:e.fields<;>simp<;>omega
 ·rw[decide_eq_false h];rfl
theorem Bx4 {b:Ba} (h:BaO b) (e:En):Js ⟨b.now,D6 (Dn b e.key).ents (J2 (Dn b e.key).ents e.key) e⟩=Ny b e:=by
 have hC:=Bfd h e.key
 have hn:=Xf h e.key
 have hnow:=Pb b e.key
 rw[Bool.eq_iff_iff,Ja]
 unfold Ny
 have hm: ∀x,x∈D6 (Dn b e.key).ents (J2 (Dn b e.key).ents e.key) e↔x∈(Dn b e.key).ents∨x=e:=fun x=>by
  unfold D6
  rw[List.perm_middle.mem_iff,List.take_append_drop,List.mem_cons,or_comm]
 simp only[Bool.and_eq_true,Bool.not_eq_true',decide_eq_true_eq]
 constructor
 ·intro hO
  have he:=hO.each e ((hm e).2 (.inr rfl))
  have hl:=hO.len
  rw[Fy] at hl
  refine⟨⟨he.1, ?_⟩,by omega⟩
  rw[Bool.and_eq_false_iff,decide_eq_false_iff_not,decide_eq_false_iff_not]
  rcases he.2 with h|h
  ·exact .inl (fun hx=>hx h)
  ·exact .inr (by dsimp only at h;omega)
 ·rintro⟨⟨h1,h2⟩,h3⟩
  rw[Bool.and_eq_false_iff,decide_eq_false_iff_not,decide_eq_false_iff_not] at h2
  refine⟨h.now,by rw[Fy];omega,fun x hx=> ?_,Bmi hC.asc hn⟩
  rcases(hm x).1 hx with hx|rfl
  ·have:=hC.each x hx
   rw[hnow] at this
   exact this
  ·refine⟨h1, ?_⟩
   rcases h2 with h2|h2
   ·exact .inl (Decidable.not_not.1 h2)
   ·exact .inr (by dsimp only;omega)
theorem Byy:f24= { f24 with body:= .seq f24.body.hd f24.body.lv (.seq f24.body.tl.hd f24.body.tl.lv (.seq f24.body.tl.tl.hd f24.body.tl.tl.lv (.seq f24.body.tl.tl.tl.hd f24.body.tl.tl.tl.lv (.seq Bd1 f24.body.tl.tl.tl.tl.lv f24.body.tl.tl.tl.tl.tl)))) } :=rfl
theorem Byp {H l:Hp} {r:Nat} {o:Ev.Obj} (h:Ce H r=some o):Ce (ap H l) r=some o:=by
 have:=Dy h
 rw[Q6] at h⊢
 rw[ap,List.getElem?_append_left (by simpa[Bc] using this)]
 exact h
theorem Bqf (H l:Hp) (m k g e n:Nat) (ds:List D) (hm:m≤k) (h:Ce l k=some (.row g e (ds.map V.d))) (hn:n=ds.length):Y0 (Bc H+m) (ap H l) (.slc (Bc H+k) g 0 n)=some (.d (.vals e ds)):=by
 have hr:Di (ap H l) (Bc H+k) g=some (e,ds.map V.d):=by
  unfold Di
  rw[Nr,h]
  simp
 have hmm:Jc (fz (Bc H+m) 7 (ap H l)) (((ds.map V.d).drop 0).take n)=some ds:=by
  rw[List.drop_zero,List.take_of_length_le (by simp[hn])]
  exact Pp (Qu ds)
 have:=Yb (n:=Bc H+m) (d:=7) (r:=Bc H+k) (g:=g) (i:=0) (k:=n) (by omega) hr (by simp;omega) hmm
 show(if Bc H+k<Bc H+m then _ else(match fz (Bc H+m) Qw _ (.slc (Bc H+k) g 0 n) with|some x=>some (V.d x) |none=>none))=_
 rw[if_neg (by omega),show Qw=7+1 from rfl,this]
def crH (c:V) (n:Int) (zs:List En) (H:Hp):Hp:=
 [.row 0 2 [c], .row 0 2 [.agg [.d (.int .i64 0), .nils 7]], .row zs.length 7 ((zs.map F6).map V.d), .row 0 2 [.agg [.d (.int .i64 n), .slc (Bc H+2) zs.length 0 zs.length]]]
theorem B4a (b:Ba) (hb:b.ents.length≤1000000) (h: ∀e∈b.ents,EnSm e) (H:Hp) (r g:Nat) (hr:Ce H r=some (.row g 7 ((b.ents.map F6).map V.d))):ev R 34 [.agg [.d (.int .i64 b.now), .slc r g 0 b.ents.length]] H=some (.agg [.d (.int .i64 b.now), .slc (Bc H) 0 0 b.ents.length],ap H [.row 0 7 ((b.ents.map F6).map V.d)]):=by
 refine Bh (fn:=f34) rfl rfl ?_
 obtain⟨L,hL⟩: ∃L,L=(b.ents.map F6).map V.d:=⟨_,rfl⟩
 have hlow:=fun l=>Byp (l:=l) hr
 rw[←hL] at hlow
 have hrl:=Dy hr
 obtain⟨c,hc⟩: ∃c:V,c= .agg [.d (.int .i64 b.now), .slc r g 0 b.ents.length]:=⟨_,rfl⟩
 obtain⟨o,e',X',he,rfl,rfl,g2,g3⟩:=(Dh (F:=Bq (ev R) R.glob (Bc H) Bg Ba5) (lv:=[2,3,11,12,13]) b.ents.length
  (fun i e X=>X=ap H (crH c b.now (b.ents.take i) H)∧e.get 2= .ptr (Bc H+1) 0 0 0∧e.get 3= .ptr (Bc H+3) 0 0 0∧e.get 11= .slc r g 0 b.ents.length∧e.get 12= .d (.int .i64 b.ents.length)∧e.get 13= .d (.int .i64 i))
  (fun o e X=>o= .exit 0∧X=ap H (crH c b.now b.ents H)∧e.get 2= .ptr (Bc H+1) 0 0 0∧e.get 3= .ptr (Bc H+3) 0 0 0)
  (by
   rintro e X ⟨rfl,g2,g3,g11,g12,g13⟩
   rw[List.take_length]
   simp(maxSteps:=1000000) [Cm,-List.getD_eq_getElem?_getD,-List.map_map,Ba5,g2,g3,g11,g12,g13,crH])
  (by
   rintro i e X hi ⟨rfl,g2,g3,g11,g12,g13⟩
   have c': (i:Int)< (b.ents.length:Int):=by omega
   have c0: (0:Int)≤(i:Int):=by omega
   have g:L[i]? =some (V.d (F6 (b.ents.getD i default))):=by rw[hL];simp[List.getD_eq_getElem?_getD,hi]
   have p:=Bv2 (b.ents.getD i default) (h _ (Gp hi))
   have w1:IntKind.i64.wrap ((i:Int)+1)=(i:Int)+1:=IntWalk.i64_in _ (by omega)
   have hs:=Jv b.ents i default hi
   have hl: (b.ents.take i).length=i:=by rw[List.length_take];omega
   have hl2: (b.ents.take (i+1)).length=i+1:=by rw[List.length_take];omega
   have sf:List.map V.d (List.map F6 (b.ents.take i))++[V.d (F6 (b.ents.getD i default))]=List.map V.d (List.map F6 (b.ents.take (i+1))):=by rw[hs];simp
   clear hs
   generalize b.ents.getD i default=x at*
   generalize b.ents.take i=zs at*
   generalize b.ents.take (i+1)=ys at*
   have rm: (i+1)*120≤Cv:=by unfold Cv;omega
   have hr4:r<Bc H+4:=by omega
   simp(maxSteps:=1000000) [Cm,-List.getD_eq_getElem?_getD,-List.map_map,Ba5,g2,g3,g11,g12,g13,c',c0,hi,g,p,w1,crH,rm,hl,hl2,sf,hlow,hr4])
  b.ents.length 0 [(2, .ptr (Bc H+1) 0 0 0),(3, .ptr (Bc H+3) 0 0 0),(11, .slc r g 0 b.ents.length),(12, .d (.int .i64 b.ents.length)),(13, .d (.int .i64 0))] (ap H (crH c b.now [] H)) (by omega) ⟨rfl,rfl,rfl,rfl,rfl,rfl⟩).out
 simp only[crH,List.map_nil,List.length_nil,hc] at he
 simp(maxSteps:=1000000) [Cm,-List.getD_eq_getElem?_getD,-List.map_map,f34,he,g2,g3,crH,Ug]
theorem B7x (b:Ba) (e:En) (hb:BaSm b) (hf:BaFit b) (he:EnSm e) (hq:EnFit e):Be (ev R) 24 [.d (Dx b), .d (F6 e)]=some (.tup [.d (Dx (Bi2 b e).1), .d (.bool (Bi2 b e).2)]):=Bb fun H=>by
 refine Bh (fn:=f24) rfl rfl ?_
 have p1:=Bzp b e.key hb.len
 have p2:=Bhd b hf
 have p3:=Bvh b hb.len hb.each
 have p5:=Bv2 e he
 have hbl:=hb.len
 unfold Bi2
 cases hk:Js b with
 |false=>
  rw[hk] at p2
  simp(maxSteps:=1000000) [Cm,-List.getD_eq_getElem?_getD,-List.map_map,f24,p1,p2,Fx]
 |true=>
  rw[hk] at p2
  have hO:=(Ja b).1 hk
  rw[Biw hO] at p1
  have hC:=Bfd hO e.key
  have hCn:=Xf hO e.key
  have hnow:=Pb b e.key
  have hT:=Bx4 hO e
  obtain⟨s1,s2⟩:=Bsv hC.asc hCn
  have hCl:=hC.len
  have il:=Fy (Dn b e.key).ents (J2 (Dn b e.key).ents e.key) e
  have p4:=Bhd (Dn b e.key) hC.g.fit
  rw[(Ja _).2 hC] at p4
  have p4b:=fun (H:Hp) (r g:Nat) hr=>B4a (Dn b e.key) hC.g.sm.len hC.g.sm.each H r g hr
  have hin: ∀x∈D6 (Dn b e.key).ents (J2 (Dn b e.key).ents e.key) e,EnSm x∧EnFit x:=fun x hx=>by
   unfold D6 at hx
   rw[List.perm_middle.mem_iff,List.take_append_drop,List.mem_cons] at hx
   rcases hx with rfl|hx
   ·exact⟨he,hq⟩
   ·exact⟨hC.g.sm.each x hx,hC.g.fit.each x hx⟩
  have hsT:BaSm ⟨b.now,D6 (Dn b e.key).ents (J2 (Dn b e.key).ents e.key) e⟩:=⟨by rw[il];omega,fun x hx=> (hin x hx).1⟩
  have hfT:BaFit ⟨b.now,D6 (Dn b e.key).ents (J2 (Dn b e.key).ents e.key) e⟩:=⟨hf.now,by rw[il];omega,fun x hx=> (hin x hx).2⟩
  have p6:=Bhd _ hfT
  have p6b:=fun (H:Hp) (r g:Nat) hr=>B4a ⟨b.now,D6 (Dn b e.key).ents (J2 (Dn b e.key).ents e.key) e⟩ hsT.len hsT.each H r g hr
  simp only[il] at p6b
  have p7b:=B70 b hb
  have p7n:=B34 b hb
  rw[hT] at p6
  clear hin hsT hfT hT
  have ps:=fun (H:Hp) (r g:Nat) hr=>B5f H r g (((Dn b e.key).ents.map F6).map V.d++[V.d (F6 e)]) hr (by simp;omega) (fun x hx=>by
   rcases List.mem_append.1 hx with hx|hx
   ·exact Bmj x hx
   ·rw[List.mem_singleton.1 hx];rfl) s1
  rw[s2] at ps
  clear s1 s2
  simp only[List.length_append,List.length_map,List.length_cons,List.length_nil,Nat.zero_add] at ps
  unfold Pd
  rw[Bjj]
  rw[Byy]
  generalize D6 (Dn b e.key).ents (J2 (Dn b e.key).ents e.key) e=I at*
  have r2: ((Dn b e.key).ents.length+1)*120≤Cv:=by unfold Cv;omega
  have il':I.length≤(Dn b e.key).ents.length+1:=by omega
  have il2: (Dn b e.key).ents.length+1≤I.length:=by omega
  have kk: (e.kind=1)=True∨(e.kind=1)=False:=by
   by_cases h:e.kind=1
   ·exact .inl (eq_true h)
   ·exact .inr (eq_false h)
  cases h:Jz b.ents e.key with
  |false=>
   have hd:Dn b e.key=b:=by unfold Dn;rw[if_neg (by rw[h];simp)]
   rw[hd] at r2 il il' il2 p4⊢
   simp only[hd] at ps p4b p6b
   rw[h] at p1
   obtain⟨o,e',X',hg,rfl,rfl,g2,g3,g4,g6,g8⟩:=(Bht (Bc H) [(2, .ptr (Bc H) 0 0 0),(3, .ptr (Bc H+1) 0 0 0),(4, .ptr (Bc H+2) 0 0 0),(6, .ptr (Bc H+4) 0 0 0)] (ap H [.row 0 2 [.d (Dx b)], .row 0 7 [.d (F6 e)], .row 0 2 [.agg [.d (.int .i64 0), .nils 7]], .row 0 7 ((b.ents.map F6).map V.d), .row 0 2 [.agg [.d (.int .i64 b.now), .slc (Bc H+3) 0 0 b.ents.length]]]) (Bc H+1) e rfl (by rw[Nr];rfl)).out
   have zf:=fun a1 a2 a3 a4 a5 (es:List En)=>Bqf H [a1,a2,a3,a4,a5, .row 0 7 ((es.map F6).map V.d)] 5 5 0 7 es.length (es.map F6) (Nat.le_refl _) rfl (by simp)
   have zi:=fun a1 a2 a3 a4 a5=>zf a1 a2 a3 a4 a5 I
   rw[il] at zi
   cases hm:Ny b e<;>rw[hm] at p6<;>cases hv:X5 e<;>rw[hv] at g8<;>rcases kk with k1|k1<;>simp(maxSteps:=1000000) [Cm,-List.getD_eq_getElem?_getD,-List.map_map,f24,ACode.hd,ACode.tl,ACode.lv,p1,p2,p3,hg,g2,g3,g4,g6,g8,k1,p5,ps,r2,il,il',il2,p6,p6b,p7b,p7n,p4,p4b,zi,zf]
  |true=>
   have hd:Dn b e.key=⟨b.now,G6 b.ents (J2 b.ents e.key)⟩:=by unfold Dn;rw[if_pos h]
   rw[hd] at r2 il il' il2 p4⊢
   simp only[hd] at ps p4b p6b
   rw[h] at p1
   have hl:=Mk h
   generalize J2 b.ents e.key=k at*
   have c1: (0:Int)≤(k:Int):=by omega
   have w1:IntKind.i64.wrap ((k:Int)+1)=(k:Int)+1:=IntWalk.i64_in _ (by omega)
   have pd:=fun (H:Hp) (r:Nat) hr=>B03 H r ((b.ents.map F6).map V.d) k hr (by simp) (by simpa using hl) (by simpa using hbl)
   simp only[List.length_map] at pd
   obtain⟨DX,hDX⟩: ∃x,x=List.take k (List.map V.d (List.map F6 b.ents))++(List.drop (k+1) (List.map V.d (List.map F6 b.ents))++[enZ]):=⟨_,rfl⟩
   have dl:DX.length=b.ents.length:=by rw[hDX];simp;omega
   have dk:=Qg b.ents k hl
   have dt:DX.take (b.ents.length - 1)=List.map V.d (List.map F6 (G6 b.ents k)):=by
    rw[hDX,←List.append_assoc,Wm,List.take_append_of_le_length (by simp[dk]),List.take_of_length_le (by simp[dk])]
   rw[←hDX] at pd
   have r1: (b.ents.length - 1)*120≤Cv:=by unfold Cv;omega
   have d1:b.ents.length - 1≤b.ents.length:=by omega
   dsimp only at r2 il il' il2 ps p4b p6b
   rw[dk] at r2 il il' il2
   simp only[dk] at ps p4b p6b
   obtain⟨o,e',X',hg,rfl,rfl,g2,g3,g4,g6,g8⟩:=(Bht (Bc H) [(2, .ptr (Bc H) 0 0 0),(3, .ptr (Bc H+1) 0 0 0),(4, .ptr (Bc H+2) 0 0 0),(6, .ptr (Bc H+4) 0 0 0)] (ap H [.row 0 2 [.d (Dx b)], .row 0 7 [.d (F6 e)], .row 0 2 [.agg [.d (.int .i64 0), .nils 7]], .row 0 7 DX, .row 0 2 [.agg [.d (.int .i64 b.now), .slc (Bc H+5) 1 0 (b.ents.length - 1)]], .row 1 7 (List.map V.d (List.map F6 (G6 b.ents k)))]) (Bc H+1) e rfl (by rw[Nr];rfl)).out
   have zf:=fun a1 a2 a3 a4 a5 a6 (es:List En)=>Bqf H [a1,a2,a3,a4,a5,a6, .row 0 7 ((es.map F6).map V.d)] 6 6 0 7 es.length (es.map F6) (Nat.le_refl _) rfl (by simp)
   have zi:=fun a1 a2 a3 a4 a5 a6=>zf a1 a2 a3 a4 a5 a6 I
   rw[il] at zi
   have zd:=fun a1 a2 a3 a4 a5 a6=>zf a1 a2 a3 a4 a5 a6 (G6 b.ents k)
   rw[dk] at zd
   cases hm:Ny b e<;>rw[hm] at p6<;>cases hv:X5 e<;>rw[hv] at g8<;>rcases kk with k1|k1<;>simp(maxSteps:=1000000) [Cm,-List.getD_eq_getElem?_getD,-List.map_map,f24,ACode.hd,ACode.tl,ACode.lv,p1,p2,p3,hg,g2,g3,g4,g6,g8,k1,p5,ps,r2,il,il',il2,p6,p6b,p7b,p7n,p4,p4b,zi,zd,pd,c1,w1,dl,dt,dk,r1,d1]
end Go.Proofs.YtjdmiodinhlchaaGreat.Code
