/- Lemmas (several texts in one). -/
import Derived.Test.YtpajcoanfkeibaaGreatDoorMDoSet6
import Derived.Test.YtpajcoanfkeibaaGreatDoorMDoSet17
import Derived.Test.YtpajcoanfkeibaaGreatDoorMDoSet23
import Derived.KernelRfl
set_option maxRecDepth 100000
set_option maxHeartbeats 4000000
set_option linter.unusedSimpArgs false
set_option linter.unusedVariables false
namespace Go.Proofs.YtpajcoanfkeibaaGreatDoor.Code
open Go Go.Ev Go.Proofs
theorem Bck {b:Ba} (h:BaO b) (t:Bq):BaO (Co b t):=by
 refine⟨by rw[Me];exact h.now,Nat.le_trans (Q8 b t) h.len,fun e he=>by rw[Me];exact h.each e (Bcj he), ?_⟩
 unfold Co
 split
 ·refine h.asc.sublist ?_
  unfold Gx
  have:=(List.Sublist.refl (b.ents.take (Ga b.ents t))).append (List.drop_sublist_drop_left b.ents (Nat.le_succ (Ga b.ents t)))
  rwa[List.take_append_drop] at this
 ·exact h.asc
theorem Q7 {es:List En} (h:es.Pairwise fun a c=>Op.bytesLess a.key c.key=true) (t:Bq): (∀x∈es.take (Ga es t),Op.bytesLess x.key t=true)∧∀x∈es.drop (Ga es t),Op.bytesLess x.key t=false:=by
 induction es with
 |nil=>simp
 |cons x r ih=>
  have ih:=ih (List.Pairwise.of_cons h)
  unfold Ga at*
  rw[List.takeWhile_cons]
  cases h1:Op.bytesLess x.key t with
  |true=>
   simp only[if_true,List.length_cons,List.take_succ_cons,List.drop_succ_cons]
   refine⟨fun y hy=> ?_,ih.2⟩
   rcases List.mem_cons.1 hy with rfl|hy
   ·exact h1
   ·exact ih.1 y hy
  |false=>
   simp only[Bool.false_eq_true,if_false,List.length_nil,List.take_zero,List.drop_zero]
   refine⟨fun y hy=>by simp at hy,fun y hy=> ?_⟩
   rcases List.mem_cons.1 hy with rfl|hy
   ·exact h1
   ·cases h2:Op.bytesLess y.key t with
    |false=>rfl
    |true=>rw[Pt (List.rel_of_pairwise_cons h hy) h2] at h1;simp at h1
theorem Bsf {es:List En} (h:es.Pairwise fun a c=>Op.bytesLess a.key c.key=true) {t:Bq} (hk:Fh es t=false): ∀x∈es,¬x.key=t:=by
 intro x hx he
 have hp:=Q7 h t
 rw[←List.take_append_drop (Ga es t) es] at hx
 rcases List.mem_append.1 hx with hx|hx
 ·have:=hp.1 x hx
  rw[he,Jh] at this
  simp at this
 ·obtain⟨y,r,hr⟩: ∃y r,es.drop (Ga es t)=y::r:=by
   cases hd:es.drop (Ga es t) with
   |nil=>rw[hd] at hx;simp at hx
   |cons y r=>exact⟨y,r,rfl⟩
  have hlt:Ga es t<es.length:=by
   have:=congrArg List.length hr
   simp at this;omega
  have hy:es.getD (Ga es t) default=y:=by
   have:=congrArg (fun l=>l.getD 0 default) hr
   simpa[List.getD_eq_getElem?_getD] using this
  have hne: ¬y.key=t:=fun hyk=>by
   unfold Fh at hk
   rw[hy] at hk
   simp[hlt,hyk] at hk
  rw[hr] at hx hp
  rcases List.mem_cons.1 hx with rfl|hx
  ·exact hne he
  ·have ha:=h.sublist (List.drop_sublist (Ga es t) es)
   rw[hr] at ha
   have h1:=List.rel_of_pairwise_cons ha hx
   rw[he] at h1
   rw[hp.2 y (by simp)] at h1
   simp at h1
theorem Tj {b:Ba} (h:BaO b) (t:Bq):Fh (Co b t).ents t=false:=by
 unfold Co
 cases hk:Fh b.ents t with
 |false=>simpa using hk
 |true=>
  simp only[if_true]
  have hp:=Q7 h.asc t
  have hl:=Kl hk
  have hd:b.ents.drop (Ga b.ents t)=b.ents.getD (Ga b.ents t) default::b.ents.drop (Ga b.ents t+1):=by
   rw[List.drop_eq_getElem_cons hl]
   simp[List.getD_eq_getElem?_getD,hl]
  have hkey: (b.ents.getD (Ga b.ents t) default).key=t:=by
   unfold Fh at hk
   rw[Bool.and_eq_true] at hk
   exact of_decide_eq_true hk.2
  have ha:=h.asc.sublist (List.drop_sublist (Ga b.ents t) b.ents)
  rw[hd] at ha
  cases hq:Fh (Gx b.ents (Ga b.ents t)) t with
  |false=>rfl
  |true=>
   have hl2:=Kl hq
   have hm: (Gx b.ents (Ga b.ents t)).getD (Ga (Gx b.ents (Ga b.ents t)) t) default∈Gx b.ents (Ga b.ents t):=Jp hl2
   unfold Fh at hq
   rw[Bool.and_eq_true] at hq
   have he:=of_decide_eq_true hq.2
   generalize(Gx b.ents (Ga b.ents t)).getD (Ga (Gx b.ents (Ga b.ents t)) t) default=y at*
   unfold Gx at hm
   rcases List.mem_append.1 hm with hm|hm
   ·have:=hp.1 y hm
    rw[he,Jh] at this
    simp at this
   ·have:=List.rel_of_pairwise_cons ha hm
    rw[hkey,he,Jh] at this
    simp at this
theorem Bnc {es:List En} (h:es.Pairwise fun a c=>Op.bytesLess a.key c.key=true) {e:En} (hk:Fh es e.key=false): (Fa es (Ga es e.key) e).Pairwise fun a c=>Op.bytesLess a.key c.key=true:=by
 have hp:=Q7 h e.key
 have hm:=Bsf h hk
 unfold Fa
 have ha:=h
 rw[←List.take_append_drop (Ga es e.key) es] at ha
 obtain⟨h1,h2,h3⟩:=List.pairwise_append.1 ha
 have hg: ∀y∈es.drop (Ga es e.key),Op.bytesLess e.key y.key=true:=fun y hy=>Bbv (hp.2 y hy) (hm y (List.mem_of_mem_drop hy))
 refine List.pairwise_append.2 ⟨h1,List.pairwise_cons.2 ⟨hg,h2⟩,fun x hx y hy=> ?_⟩
 rcases List.mem_cons.1 hy with rfl|hy
 ·exact hp.1 x hx
 ·exact h3 x hx y hy
theorem Bgj (e:En):Z4 false (.d (F3 e))=some (0,e.key):=rfl
theorem Bne {es:List En} : ∀x∈(es.map F3).map V.d,(Z4 false x).isSome=true:=by
 intro x hx
 obtain⟨d,hd,rfl⟩:=List.mem_map.1 hx
 obtain⟨e,he,rfl⟩:=List.mem_map.1 hd
 rfl
theorem Bsg {es:List En} (h:es.Pairwise fun a c=>Op.bytesLess a.key c.key=true): ∀a∈es,∀c∈es,a.key=c.key→a=c:=by
 induction es with
 |nil=>intro a ha;simp at ha
 |cons x r ih=>
  have hr:=List.Pairwise.of_cons h
  intro a ha c hc he
  rcases List.mem_cons.1 ha with rfl|ha2
  ·rcases List.mem_cons.1 hc with rfl|hc
   ·rfl
   ·have:=List.rel_of_pairwise_cons h hc
    rw[he,Jh] at this;simp at this
  ·skip
   rcases List.mem_cons.1 hc with rfl|hc
   ·have:=List.rel_of_pairwise_cons h ha2
    rw[he,Jh] at this;simp at this
   ·exact ih hr a ha2 c hc he
theorem Btp {es:List En} (h:es.Pairwise fun a c=>Op.bytesLess a.key c.key=true) {e:En} (hk:Fh es e.key=false):
  (∀a∈(es.map F3).map V.d++[V.d (F3 e)],∀c∈(es.map F3).map V.d++[V.d (F3 e)],Z4 false a=Z4 false c→a=c)∧X9 false ((es.map F3).map V.d++[V.d (F3 e)])=((Fa es (Ga es e.key) e).map F3).map V.d:=by
 have ha:=Bnc h hk
 have e0: (es.map F3).map V.d++[V.d (F3 e)]=((es++[e]).map F3).map V.d:=by simp
 have hperm: (Fa es (Ga es e.key) e).Perm (es++[e]):=by
  unfold Fa
  refine List.perm_middle.trans ?_
  rw[List.take_append_drop]
  exact(List.perm_append_singleton e es).symm
 have hi:=Bsg ha
 have hin: ∀a∈((es++[e]).map F3).map V.d,∀c∈((es++[e]).map F3).map V.d,Z4 false a=Z4 false c→a=c:=by
  intro a ha c hc he
  obtain⟨d,hd,rfl⟩:=List.mem_map.1 ha
  obtain⟨x,hx,rfl⟩:=List.mem_map.1 hd
  obtain⟨d,hd,rfl⟩:=List.mem_map.1 hc
  obtain⟨y,hy,rfl⟩:=List.mem_map.1 hd
  rw[Bgj,Bgj] at he
  simp only[Option.some.injEq,Prod.mk.injEq,true_and] at he
  rw[hi x (hperm.mem_iff.2 hx) y (hperm.mem_iff.2 hy) he]
 rw[e0]
 refine⟨hin,(Ya ((hperm.map F3).map V.d) ?_ Bne hin).symm⟩
 rw[List.pairwise_map,List.pairwise_map]
 refine ha.imp fun {a c} hac=> ?_
 unfold leV
 rw[Bgj,Bgj]
 simp only[Option.getD_some,ltK,Int.lt_irrefl,decide_false,Bool.false_or,decide_true,Bool.true_and,Bool.not_eq_true']
 cases hq:Op.bytesLess c.key a.key with
 |false=>rfl
 |true=>have:=Pt hac hq;rw[Jh] at this;simp at this
theorem B2s (H:Hp) (r g:Nat) (xs:List V) (hr:Ce H r=some (.row g 7 xs)) (hl:xs.length<4611686018427387904) (hk: ∀x∈xs,(Z4 false x).isSome=true) (hi: ∀a∈xs,∀c∈xs,Z4 false a=Z4 false c→a=c):
  ev R 235 [.slc r g 0 xs.length, .d (.fn (.func 236) [])] H=some (.tup [],Bw H r (.row g 7 (X9 false xs))):=by
 refine Bwp (p:=Be0 false 6 236) rfl ?_
 have hrow:Cz H r g=some (7,xs):=by unfold Cz;rw[hr];simp
 unfold Be0
 simp only[hrow]
 rw[if_pos ⟨rfl,rfl,rfl,hl,hk,hi⟩]
def Be9 (b:Ba) (e:En):Ba×Bool:=if Jy b=true then Nc b e else(⟨0,[]⟩,false)
def Yp (e:En):Bool:=decide (e.text=[]) &&decide (e.list=[]) &&decide (e.scores=[]) &&decide (e.fields=[])
def Y8:ACode:=(f177.body.tl.tl.tl.tl).hd
theorem Bet (n0:Bn) (env:Env) (X:Hp) (p:Nat) (e:En) (g3:env.get 3= .ptr p 0 0 0) (hp:Ce X p=some (.row 0 7 [.d (F3 e)])):
  Gives (fun o e' X'=>o= .normal∧X'=X∧e'.get 2=env.get 2∧e'.get 3=env.get 3∧e'.get 4=env.get 4∧e'.get 6=env.get 6∧e'.get 8= .d (.bool (Yp e))) (Bp (ev R) R.glob n0 Bg Y8 ⟨env,X⟩):=by
 unfold Yp
 by_cases x1:e.text=[]
 ·by_cases x2:e.list=[]
  ·by_cases x3:e.scores=[]
   ·by_cases x4:e.fields=[]<;>simp(maxSteps:=1000000) [Ca,-List.getD_eq_getElem?_getD,-List.map_map,Y8,f177,ACode.tl,ACode.hd,g3,hp,x1,x2,x3,x4]
   ·simp(maxSteps:=1000000) [Ca,-List.getD_eq_getElem?_getD,-List.map_map,Y8,f177,ACode.tl,ACode.hd,g3,hp,x1,x2,x3]
  ·simp(maxSteps:=1000000) [Ca,-List.getD_eq_getElem?_getD,-List.map_map,Y8,f177,ACode.tl,ACode.hd,g3,hp,x1,x2]
 ·simp(maxSteps:=1000000) [Ca,-List.getD_eq_getElem?_getD,-List.map_map,Y8,f177,ACode.tl,ACode.hd,g3,hp,x1]
theorem Bkd (e:En):Pn e=(decide (e.kind≠1) &&Yp e):=by
 unfold Pn Yp
 rw[Bool.and_assoc]
 congr 1
 by_cases h:e.text=[]
 ·rw[decide_eq_true h,Bool.true_and,Bool.true_and]
  cases h1:e.list<;>cases h2:e.scores<;>cases h3:e.fields<;>simp<;>omega
 ·rw[decide_eq_false h];rfl
theorem By8 {b:Ba} (h:BaO b) (e:En):Jy ⟨b.now,Fa (Co b e.key).ents (Ga (Co b e.key).ents e.key) e⟩=Mv b e:=by
 have hC:=Bck h e.key
 have hn:=Tj h e.key
 have hnow:=Me b e.key
 rw[Bool.eq_iff_iff,F4]
 unfold Mv
 have hm: ∀x,x∈Fa (Co b e.key).ents (Ga (Co b e.key).ents e.key) e↔x∈(Co b e.key).ents∨x=e:=fun x=>by
  unfold Fa
  rw[List.perm_middle.mem_iff,List.take_append_drop,List.mem_cons,or_comm]
 simp only[Bool.and_eq_true,Bool.not_eq_true',decide_eq_true_eq]
 constructor
 ·intro hO
  have he:=hO.each e ((hm e).2 (.inr rfl))
  have hl:=hO.len
  rw[Gt] at hl
  refine⟨⟨he.1, ?_⟩,by omega⟩
  rw[Bool.and_eq_false_iff,decide_eq_false_iff_not,decide_eq_false_iff_not]
  rcases he.2 with h|h
  ·exact .inl (fun hx=>hx h)
  ·exact .inr (by dsimp only at h;omega)
 ·rintro⟨⟨h1,h2⟩,h3⟩
  rw[Bool.and_eq_false_iff,decide_eq_false_iff_not,decide_eq_false_iff_not] at h2
  refine⟨h.now,by rw[Gt];omega,fun x hx=> ?_,Bnc hC.asc hn⟩
  rcases(hm x).1 hx with hx|rfl
  ·have:=hC.each x hx
   rw[hnow] at this
   exact this
  ·refine⟨h1, ?_⟩
   rcases h2 with h2|h2
   ·exact .inl (Decidable.not_not.1 h2)
   ·exact .inr (by dsimp only;omega)
theorem Bv0:f177= { f177 with body:= .seq f177.body.hd f177.body.lv (.seq f177.body.tl.hd f177.body.tl.lv (.seq f177.body.tl.tl.hd f177.body.tl.tl.lv (.seq f177.body.tl.tl.tl.hd f177.body.tl.tl.tl.lv (.seq Y8 f177.body.tl.tl.tl.tl.lv f177.body.tl.tl.tl.tl.tl)))) } :=rfl
theorem Bz1 {H l:Hp} {r:Nat} {o:Ev.Obj} (h:Ce H r=some o):Ce (ap H l) r=some o:=by
 have:=Ff h
 rw[Qf] at h⊢
 rw[ap,List.getElem?_append_left (by simpa[Be] using this)]
 exact h
theorem Brd (H l:Hp) (m k g e n:Nat) (ds:List D) (hm:m≤k) (h:Ce l k=some (.row g e (ds.map V.d))) (hn:n=ds.length):Td (Be H+m) (ap H l) (.slc (Be H+k) g 0 n)=some (.d (.vals e ds)):=by
 have hr:Cz (ap H l) (Be H+k) g=some (e,ds.map V.d):=by
  unfold Cz
  rw[Mm,h]
  simp
 have hmm:Gs (fz (Be H+m) 7 (ap H l)) (((ds.map V.d).drop 0).take n)=some ds:=by
  rw[List.drop_zero,List.take_of_length_le (by simp[hn])]
  exact Qg (Ud ds)
 have:=Yy (n:=Be H+m) (d:=7) (r:=Be H+k) (g:=g) (i:=0) (k:=n) (by omega) hr (by simp;omega) hmm
 show(if Be H+k<Be H+m then _ else(match fz (Be H+m) Nl _ (.slc (Be H+k) g 0 n) with|some x=>some (V.d x) |none=>none))=_
 rw[if_neg (by omega),show Nl=7+1 from rfl,this]
def crH (c:V) (n:Int) (zs:List En) (H:Hp):Hp:=
 [.row 0 2 [c], .row 0 2 [.agg [.d (.int .i64 0), .nils 7]], .row zs.length 7 ((zs.map F3).map V.d), .row 0 2 [.agg [.d (.int .i64 n), .slc (Be H+2) zs.length 0 zs.length]]]
theorem B6r (b:Ba) (hb:b.ents.length≤1000000) (h: ∀e∈b.ents,EnSm e) (H:Hp) (r g:Nat) (hr:Ce H r=some (.row g 7 ((b.ents.map F3).map V.d))):ev R 34 [.agg [.d (.int .i64 b.now), .slc r g 0 b.ents.length]] H=some (.agg [.d (.int .i64 b.now), .slc (Be H) 0 0 b.ents.length],ap H [.row 0 7 ((b.ents.map F3).map V.d)]):=by
 refine Bh (fn:=f34) rfl rfl ?_
 obtain⟨L,hL⟩: ∃L,L=(b.ents.map F3).map V.d:=⟨_,rfl⟩
 have hlow:=fun l=>Bz1 (l:=l) hr
 rw[←hL] at hlow
 have hrl:=Ff hr
 obtain⟨c,hc⟩: ∃c:V,c= .agg [.d (.int .i64 b.now), .slc r g 0 b.ents.length]:=⟨_,rfl⟩
 obtain⟨o,e',X',he,rfl,rfl,g2,g3⟩:=(Di (F:=Bp (ev R) R.glob (Be H) Bg Bbl) (lv:=[2,3,11,12,13]) b.ents.length
  (fun i e X=>X=ap H (crH c b.now (b.ents.take i) H)∧e.get 2= .ptr (Be H+1) 0 0 0∧e.get 3= .ptr (Be H+3) 0 0 0∧e.get 11= .slc r g 0 b.ents.length∧e.get 12= .d (.int .i64 b.ents.length)∧e.get 13= .d (.int .i64 i))
  (fun o e X=>o= .exit 0∧X=ap H (crH c b.now b.ents H)∧e.get 2= .ptr (Be H+1) 0 0 0∧e.get 3= .ptr (Be H+3) 0 0 0)
  (by
   rintro e X ⟨rfl,g2,g3,g11,g12,g13⟩
   rw[List.take_length]
   simp(maxSteps:=1000000) [Ca,-List.getD_eq_getElem?_getD,-List.map_map,Bbl,g2,g3,g11,g12,g13,crH])
  (by
   rintro i e X hi ⟨rfl,g2,g3,g11,g12,g13⟩
   have c': (i:Int)< (b.ents.length:Int):=by omega
   have c0: (0:Int)≤(i:Int):=by omega
   have g:L[i]? =some (V.d (F3 (b.ents.getD i default))):=by rw[hL];simp[List.getD_eq_getElem?_getD,hi]
   have p:=Bw6 (b.ents.getD i default) (h _ (Jp hi))
   have w1:IntKind.i64.wrap ((i:Int)+1)=(i:Int)+1:=IntWalk.i64_in _ (by omega)
   have hs:=J4 b.ents i default hi
   have hl: (b.ents.take i).length=i:=by rw[List.length_take];omega
   have hl2: (b.ents.take (i+1)).length=i+1:=by rw[List.length_take];omega
   have sf:List.map V.d (List.map F3 (b.ents.take i))++[V.d (F3 (b.ents.getD i default))]=List.map V.d (List.map F3 (b.ents.take (i+1))):=by rw[hs];simp
   clear hs
   generalize b.ents.getD i default=x at*
   generalize b.ents.take i=zs at*
   generalize b.ents.take (i+1)=ys at*
   have rm: (i+1)*120≤Cq:=by unfold Cq;omega
   have hr4:r<Be H+4:=by omega
   simp(maxSteps:=1000000) [Ca,-List.getD_eq_getElem?_getD,-List.map_map,Bbl,g2,g3,g11,g12,g13,c',c0,hi,g,p,w1,crH,rm,hl,hl2,sf,hlow,hr4])
  b.ents.length 0 [(2, .ptr (Be H+1) 0 0 0),(3, .ptr (Be H+3) 0 0 0),(11, .slc r g 0 b.ents.length),(12, .d (.int .i64 b.ents.length)),(13, .d (.int .i64 0))] (ap H (crH c b.now [] H)) (by omega) ⟨rfl,rfl,rfl,rfl,rfl,rfl⟩).out
 simp only[crH,List.map_nil,List.length_nil,hc] at he
 simp(maxSteps:=1000000) [Ca,-List.getD_eq_getElem?_getD,-List.map_map,f34,he,g2,g3,crH,Ux]
theorem B5x (b:Ba) (e:En) (hb:BaSm b) (hf:BaFit b) (he:EnSm e) (hq:EnFit e):Bc (ev R) 177 [.d (Db b), .d (F3 e)]=some (.tup [.d (Db (Be9 b e).1), .d (.bool (Be9 b e).2)]):=Bb fun H=>by
 refine Bh (fn:=f177) rfl rfl ?_
 have p1:=Blg b e.key hb.len
 have p2:=Bpb b hf
 have p3:=Bwa b hb.len hb.each
 have p5:=Bw6 e he
 have hbl:=hb.len
 unfold Be9
 cases hk:Jy b with
 |false=>
  rw[hk] at p2
  simp(maxSteps:=1000000) [Ca,-List.getD_eq_getElem?_getD,-List.map_map,f177,p1,p2,F6]
 |true=>
  rw[hk] at p2
  have hO:=(F4 b).1 hk
  rw[Sn hO] at p1
  have hC:=Bck hO e.key
  have hCn:=Tj hO e.key
  have hnow:=Me b e.key
  have hT:=By8 hO e
  obtain⟨s1,s2⟩:=Btp hC.asc hCn
  have hCl:=hC.len
  have il:=Gt (Co b e.key).ents (Ga (Co b e.key).ents e.key) e
  have p4:=Bpb (Co b e.key) hC.g.fit
  rw[(F4 _).2 hC] at p4
  have p4b:=fun (H:Hp) (r g:Nat) hr=>B6r (Co b e.key) hC.g.sm.len hC.g.sm.each H r g hr
  have hin: ∀x∈Fa (Co b e.key).ents (Ga (Co b e.key).ents e.key) e,EnSm x∧EnFit x:=fun x hx=>by
   unfold Fa at hx
   rw[List.perm_middle.mem_iff,List.take_append_drop,List.mem_cons] at hx
   rcases hx with rfl|hx
   ·exact⟨he,hq⟩
   ·exact⟨hC.g.sm.each x hx,hC.g.fit.each x hx⟩
  have hsT:BaSm ⟨b.now,Fa (Co b e.key).ents (Ga (Co b e.key).ents e.key) e⟩:=⟨by rw[il];omega,fun x hx=> (hin x hx).1⟩
  have hfT:BaFit ⟨b.now,Fa (Co b e.key).ents (Ga (Co b e.key).ents e.key) e⟩:=⟨hf.now,by rw[il];omega,fun x hx=> (hin x hx).2⟩
  have p6:=Bpb _ hfT
  have p6b:=fun (H:Hp) (r g:Nat) hr=>B6r ⟨b.now,Fa (Co b e.key).ents (Ga (Co b e.key).ents e.key) e⟩ hsT.len hsT.each H r g hr
  simp only[il] at p6b
  have p7b:=Bpg b hb
  have p7n:=Beh b hb
  rw[hT] at p6
  clear hin hsT hfT hT
  have ps:=fun (H:Hp) (r g:Nat) hr=>B2s H r g (((Co b e.key).ents.map F3).map V.d++[V.d (F3 e)]) hr (by simp;omega) (fun x hx=>by
   rcases List.mem_append.1 hx with hx|hx
   ·exact Bne x hx
   ·rw[List.mem_singleton.1 hx];rfl) s1
  rw[s2] at ps
  clear s1 s2
  simp only[List.length_append,List.length_map,List.length_cons,List.length_nil,Nat.zero_add] at ps
  unfold Nc
  rw[Bkd]
  rw[Bv0]
  generalize Fa (Co b e.key).ents (Ga (Co b e.key).ents e.key) e=I at*
  have r2: ((Co b e.key).ents.length+1)*120≤Cq:=by unfold Cq;omega
  have il':I.length≤(Co b e.key).ents.length+1:=by omega
  have il2: (Co b e.key).ents.length+1≤I.length:=by omega
  have kk: (e.kind=1)=True∨(e.kind=1)=False:=by
   by_cases h:e.kind=1
   ·exact .inl (eq_true h)
   ·exact .inr (eq_false h)
  cases h:Fh b.ents e.key with
  |false=>
   have hd:Co b e.key=b:=by unfold Co;rw[if_neg (by rw[h];simp)]
   rw[hd] at r2 il il' il2 p4⊢
   simp only[hd] at ps p4b p6b
   rw[h] at p1
   obtain⟨o,e',X',hg,rfl,rfl,g2,g3,g4,g6,g8⟩:=(Bet (Be H) [(2, .ptr (Be H) 0 0 0),(3, .ptr (Be H+1) 0 0 0),(4, .ptr (Be H+2) 0 0 0),(6, .ptr (Be H+4) 0 0 0)] (ap H [.row 0 2 [.d (Db b)], .row 0 7 [.d (F3 e)], .row 0 2 [.agg [.d (.int .i64 0), .nils 7]], .row 0 7 ((b.ents.map F3).map V.d), .row 0 2 [.agg [.d (.int .i64 b.now), .slc (Be H+3) 0 0 b.ents.length]]]) (Be H+1) e rfl (by rw[Mm];rfl)).out
   have zf:=fun a1 a2 a3 a4 a5 (es:List En)=>Brd H [a1,a2,a3,a4,a5, .row 0 7 ((es.map F3).map V.d)] 5 5 0 7 es.length (es.map F3) (Nat.le_refl _) rfl (by simp)
   have zi:=fun a1 a2 a3 a4 a5=>zf a1 a2 a3 a4 a5 I
   rw[il] at zi
   cases hm:Mv b e<;>rw[hm] at p6<;>cases hv:Yp e<;>rw[hv] at g8<;>rcases kk with k1|k1<;>simp(maxSteps:=1000000) [Ca,-List.getD_eq_getElem?_getD,-List.map_map,f177,ACode.hd,ACode.tl,ACode.lv,p1,p2,p3,hg,g2,g3,g4,g6,g8,k1,p5,ps,r2,il,il',il2,p6,p6b,p7b,p7n,p4,p4b,zi,zf]
  |true=>
   have hd:Co b e.key=⟨b.now,Gx b.ents (Ga b.ents e.key)⟩:=by unfold Co;rw[if_pos h]
   rw[hd] at r2 il il' il2 p4⊢
   simp only[hd] at ps p4b p6b
   rw[h] at p1
   have hl:=Kl h
   generalize Ga b.ents e.key=k at*
   have c1: (0:Int)≤(k:Int):=by omega
   have w1:IntKind.i64.wrap ((k:Int)+1)=(k:Int)+1:=IntWalk.i64_in _ (by omega)
   have pd:=fun (H:Hp) (r:Nat) hr=>B2v H r ((b.ents.map F3).map V.d) k hr (by simp) (by simpa using hl) (by simpa using hbl)
   simp only[List.length_map] at pd
   obtain⟨DX,hDX⟩: ∃x,x=List.take k (List.map V.d (List.map F3 b.ents))++(List.drop (k+1) (List.map V.d (List.map F3 b.ents))++[enZ]):=⟨_,rfl⟩
   have dl:DX.length=b.ents.length:=by rw[hDX];simp;omega
   have dk:=Ms b.ents k hl
   have dt:DX.take (b.ents.length - 1)=List.map V.d (List.map F3 (Gx b.ents k)):=by
    rw[hDX,←List.append_assoc,Xh,List.take_append_of_le_length (by simp[dk]),List.take_of_length_le (by simp[dk])]
   rw[←hDX] at pd
   have r1: (b.ents.length - 1)*120≤Cq:=by unfold Cq;omega
   have d1:b.ents.length - 1≤b.ents.length:=by omega
   dsimp only at r2 il il' il2 ps p4b p6b
   rw[dk] at r2 il il' il2
   simp only[dk] at ps p4b p6b
   obtain⟨o,e',X',hg,rfl,rfl,g2,g3,g4,g6,g8⟩:=(Bet (Be H) [(2, .ptr (Be H) 0 0 0),(3, .ptr (Be H+1) 0 0 0),(4, .ptr (Be H+2) 0 0 0),(6, .ptr (Be H+4) 0 0 0)] (ap H [.row 0 2 [.d (Db b)], .row 0 7 [.d (F3 e)], .row 0 2 [.agg [.d (.int .i64 0), .nils 7]], .row 0 7 DX, .row 0 2 [.agg [.d (.int .i64 b.now), .slc (Be H+5) 1 0 (b.ents.length - 1)]], .row 1 7 (List.map V.d (List.map F3 (Gx b.ents k)))]) (Be H+1) e rfl (by rw[Mm];rfl)).out
   have zf:=fun a1 a2 a3 a4 a5 a6 (es:List En)=>Brd H [a1,a2,a3,a4,a5,a6, .row 0 7 ((es.map F3).map V.d)] 6 6 0 7 es.length (es.map F3) (Nat.le_refl _) rfl (by simp)
   have zi:=fun a1 a2 a3 a4 a5 a6=>zf a1 a2 a3 a4 a5 a6 I
   rw[il] at zi
   have zd:=fun a1 a2 a3 a4 a5 a6=>zf a1 a2 a3 a4 a5 a6 (Gx b.ents k)
   rw[dk] at zd
   cases hm:Mv b e<;>rw[hm] at p6<;>cases hv:Yp e<;>rw[hv] at g8<;>rcases kk with k1|k1<;>simp(maxSteps:=1000000) [Ca,-List.getD_eq_getElem?_getD,-List.map_map,f177,ACode.hd,ACode.tl,ACode.lv,p1,p2,p3,hg,g2,g3,g4,g6,g8,k1,p5,ps,r2,il,il',il2,p6,p6b,p7b,p7n,p4,p4b,zi,zd,pd,c1,w1,dl,dt,dk,r1,d1]
def okV:V:= .agg [.d (.int .i64 0), .d (.int .i64 0), .d (.str []), .nils 1, .nils 5]
def Blk (b:Ba) (e:En):Ba:=if(Be9 b e).2=true then(Be9 b e).1 else b
def Bcm (b:Ba) (e:En) (rp:Re):Re:=if(Be9 b e).2=true then rp else Zt [102,117,108,108]
section
variable {b:Ba} {nu:V} {z:Bool} {e:En}
theorem B7y (hn: ∀l,Gu (nu::l)=none) (a:D) {rv:V} {rp:Re} (hrv:rv= .d (P7 rp)∨(rv=okV∧rp=Tp)) (hb:BaSm b) (hf:BaFit b) (he:EnSm e) (hq:EnFit e) (hz:zOk z e): ∀X r,r<Be X→ev R 80 [.ptr r 0 0 0,rv] (oh X r (dO b a nu z e) [])=some (.d (P7 (Bcm b e rp)),Bw X r (dO (Blk b e) a nu z e)):=fun X r hr=>by
 refine Bh (fn:=f80) rfl rfl ?_
 have h0:=fun l=>Zp X l r (dO b a nu z e) hr
 have hm:=fun l o'=>Baq X l r (dO b a nu z e) hr o'
 have p:=B5x b e hb hf he hq
 have p2:=B92 [102,117,108,108]
 unfold Blk Bcm
 generalize Be9 b e=q at*
 obtain⟨q1,q2⟩:=q
 simp only[dO,dC] at*
 rcases hrv with rfl| ⟨rfl,rfl⟩
 ·cases z with
  |false=>
   simp only[cond_false] at*
   cases q2
   ·simp(maxSteps:=1000000) [Ca,Ja,Ka,J9,G9,Kb,Jb,Jc,Gh,J8,G8,Md,-List.getD_eq_getElem?_getD,-List.map_map,f80,h0,hm,p,p2,hn,okV,Tp,Bf]
   ·simp(maxSteps:=1000000) [Ca,Ja,Ka,J9,G9,Kb,Jb,Jc,Gh,J8,G8,Md,-List.getD_eq_getElem?_getD,-List.map_map,f80,h0,hm,p,p2,hn,okV,Tp,Bf]
  |true=>
   obtain⟨h1,h2,h3⟩:=hz rfl
   obtain⟨k0,t0,d0,x0,l0,s0,f0⟩:=e
   simp only at h1 h2 h3
   subst h1 h2 h3
   simp only[cond_true] at*
   cases q2
   ·simp(maxSteps:=1000000) [Ca,Ja,Ka,J9,G9,Kb,Jb,Jc,Gh,J8,G8,Md,-List.getD_eq_getElem?_getD,-List.map_map,f80,h0,hm,p,p2,hn,okV,Tp]
   ·simp(maxSteps:=1000000) [Ca,Ja,Ka,J9,G9,Kb,Jb,Jc,Gh,J8,G8,Md,-List.getD_eq_getElem?_getD,-List.map_map,f80,h0,hm,p,p2,hn,okV,Tp]
 ·cases z with
  |false=>
   simp only[cond_false] at*
   cases q2
   ·simp(maxSteps:=1000000) [Ca,Ja,Ka,J9,G9,Kb,Jb,Jc,Gh,J8,G8,Md,-List.getD_eq_getElem?_getD,-List.map_map,f80,h0,hm,p,p2,hn,okV,Tp,Bf]
   ·simp(maxSteps:=1000000) [Ca,Ja,Ka,J9,G9,Kb,Jb,Jc,Gh,J8,G8,Md,-List.getD_eq_getElem?_getD,-List.map_map,f80,h0,hm,p,p2,hn,okV,Tp,Bf]
  |true=>
   obtain⟨h1,h2,h3⟩:=hz rfl
   obtain⟨k0,t0,d0,x0,l0,s0,f0⟩:=e
   simp only at h1 h2 h3
   subst h1 h2 h3
   simp only[cond_true] at*
   cases q2
   ·simp(maxSteps:=1000000) [Ca,Ja,Ka,J9,G9,Kb,Jb,Jc,Gh,J8,G8,Md,-List.getD_eq_getElem?_getD,-List.map_map,f80,h0,hm,p,p2,hn,okV,Tp]
   ·simp(maxSteps:=1000000) [Ca,Ja,Ka,J9,G9,Kb,Jb,Jc,Gh,J8,G8,Md,-List.getD_eq_getElem?_getD,-List.map_map,f80,h0,hm,p,p2,hn,okV,Tp]
theorem Bv9 {w t x:Bq} {l:List D} (hb:BaSm b) (hf:BaFit b) (he:EnSm ⟨t,0,1,x,[],[],[]⟩) (hq:EnFit ⟨t,0,1,x,[],[],[]⟩):DoesO 79 (dO b (.vals 1 (.str w:: .str t:: .str x::l)) (.nils 1) z e) (dO (Blk b ⟨t,0,1,x,[],[],[]⟩) (.vals 1 (.str w:: .str t:: .str x::l)) (.nils 1) true ⟨t,0,1,x,[],[],[]⟩) (Bcm b ⟨t,0,1,x,[],[],[]⟩ Tp):=fun X r hr=>by
 refine Bh (fn:=f79) rfl rfl ?_
 have h0:=fun l2=>Zp X l2 r (dO b (.vals 1 (.str w:: .str t:: .str x::l)) (.nils 1) z e) hr
 have hm:=fun l2 o'=>Baq X l2 r (dO b (.vals 1 (.str w:: .str t:: .str x::l)) (.nils 1) z e) hr o'
 have p:=fun (l2:Hp)=>Bwz (B7y (nu:= .nils 1) (z:=true) (fun _=>rfl) (.vals 1 (.str w:: .str t:: .str x::l)) (.inr ⟨rfl,rfl⟩) hb hf he hq (fun _=> ⟨rfl,rfl,rfl⟩)) X r hr l2
 have q1: (1:Int)< (l.length:Int)+1+1+1:=by omega
 have q2: (2:Int)< (l.length:Int)+1+1+1:=by omega
 generalize Blk b ⟨t,0,1,x,[],[],[]⟩=B at*
 generalize Bcm b ⟨t,0,1,x,[],[],[]⟩ Tp=P at*
 cases z<;>simp only[dO,dC,okV,cond_true,cond_false] at* <;>simp(maxSteps:=1000000) [Ca,Ja,Ka,J9,G9,Kb,Jb,Jc,Gh,J8,G8,Md,-List.getD_eq_getElem?_getD,-List.map_map,f79,h0,hm,p,q1,q2]
end
def Wi:List Bq:=[[110,111,110,101],[115,116,114,105,110,103],[108,105,115,116],[115,101,116],[122,115,101,116],[104,97,115,104]]
section
variable {b:Ba} {nu:V} {z:Bool} {e:En}
theorem Brt {w t:Bq} {q:List D} (hz:zOk z e) (hb:b.ents.length≤1000000) (hk:0≤e.kind∧e.kind<6):DoesO 144 (dO b (.vals 1 (.str w:: .str t::q)) (.nils 1) z e) (dO b (.vals 1 (.str w:: .str t::q)) (.nils 1) z e) (P5 (if 0≤aV b.ents t then Wi.getD e.kind.toNat [] else[110,111,110,101])):=fun X r hr=>by
 refine Bh (fn:=f144) rfl rfl ?_
 have h0:=fun l=>Zp X l r (dO b (.vals 1 (.str w:: .str t::q)) (.nils 1) z e) hr
 have hv:=fun l=>Bfo hz (h0 l)
 have p1:=B0x b w t q (.vals 1 []) e hb
 have p2:=fun s=>B6n s
 obtain⟨n,hn⟩: ∃n:Nat,e.kind=n:=⟨e.kind.toNat,by omega⟩
 have g: ([.str [110,111,110,101], .str [115,116,114,105,110,103], .str [108,105,115,116], .str [115,101,116], .str [122,115,101,116], .str [104,97,115,104]]:List D).getD n .nilp= .str (Wi.getD n []):=by
  have h6:n<6:=by omega
  match n,h6 with
  |0,_=>rfl
  |1,_=>rfl
  |2,_=>rfl
  |3,_=>rfl
  |4,_=>rfl
  |5,_=>rfl
 have c0: (0:Int)≤(n:Int):=by omega
 have c1: (n:Int)<6:=by omega
 have c2:n<6:=by omega
 have hG:R.glob 0=some [Uh]:=rfl
 rw[hn,Int.toNat_natCast]
 generalize Wi.getD n []=T at*
 simp only[dO,dC] at*
 rw[hn] at h0 hv
 by_cases ha:0≤aV b.ents t
 ·simp(maxSteps:=1000000) [Ca,Ja,Ka,J9,G9,Kb,Jb,Jc,Gh,J8,G8,Md,-List.getD_eq_getElem?_getD,-List.map_map,f144,h0,hv,p1,p2,ha,hG,Uh,g,c0,c1,c2,hn]
 ·simp(maxSteps:=1000000) [Ca,Ja,Ka,J9,G9,Kb,Jb,Jc,Gh,J8,G8,Md,-List.getD_eq_getElem?_getD,-List.map_map,f144,h0,hv,p1,p2,ha,hG,Uh,g,c0,c1,c2,hn]
def Bx1 (b:Ba) (t:Bq) (e:En):Int:=if 0≤aV b.ents t then(if e.till=0 then -1 else e.till - b.now) else -2
theorem Bru {w t:Bq} {q:List D} (hz:zOk z e) (hb:b.ents.length≤1000000) (hw:IntKind.i64.wrap (e.till - b.now)=e.till - b.now):DoesO 145 (dO b (.vals 1 (.str w:: .str t::q)) (.nils 1) z e) (dO b (.vals 1 (.str w:: .str t::q)) (.nils 1) z e) (Lv (Bx1 b t e)):=fun X r hr=>by
 refine Bh (fn:=f145) rfl rfl ?_
 have h0:=fun l=>Zp X l r (dO b (.vals 1 (.str w:: .str t::q)) (.nils 1) z e) hr
 have hv:=fun l=>Bfo hz (h0 l)
 have p1:=B0x b w t q (.vals 1 []) e hb
 have p2:=fun n=>B0y n
 simp only[dO,dC,Bx1] at*
 by_cases ha:0≤aV b.ents t
 ·by_cases hb:e.till=0
  ·simp only[hb] at h0 hv
   simp(maxSteps:=1000000) [Ca,Ja,Ka,J9,G9,Kb,Jb,Jc,Gh,J8,G8,Md,-List.getD_eq_getElem?_getD,-List.map_map,f145,h0,hv,p1,p2,ha,hb]
  ·simp(maxSteps:=1000000) [Ca,Ja,Ka,J9,G9,Kb,Jb,Jc,Gh,J8,G8,Md,-List.getD_eq_getElem?_getD,-List.map_map,f145,h0,hv,p1,p2,ha,hb,hw]
 ·simp(maxSteps:=1000000) [Ca,Ja,Ka,J9,G9,Kb,Jb,Jc,Gh,J8,G8,Md,-List.getD_eq_getElem?_getD,-List.map_map,f145,h0,hv,p1,p2,ha]
theorem Brs {w t:Bq} (hO:BaO b):DoesO 142 (dO b (.vals 1 [.str w, .str t]) (.nils 1) z e) (dO (Co b t) (.vals 1 [.str w, .str t]) (.nils 1) z e) (Lv (if Fh b.ents t=true then 1 else 0)):=fun X r hr=>by
 refine Bh (fn:=f142) rfl rfl ?_
 have hm:=fun l2 o o'=>Baq X l2 r o hr o'
 have h0:=fun o l=>Zp X l r o hr
 have p2:=B91 b t hO.g.sm hO.g.fit
 have p3:=fun n=>B0y n
 have hr1:r<Be X+1:=by omega
 unfold Bmz at p2
 rw[(F4 b).2 hO] at p2
 simp only[if_true] at p2
 generalize Co b t=B0 at*
 cases hh:Fh b.ents t<;>rw[hh] at p2<;>cases z<;>simp only[dO,dC,okV,cond_true,cond_false] at*
 all_goals
  simp(maxSteps:=1000000) [Ca,Ja,Ka,J9,G9,Kb,Jb,Jc,Gh,J8,G8,Md,-List.getD_eq_getElem?_getD,-List.map_map,f142,h0,hm,p2,p3,Mh,Mi,hr1]
  rw[Bt]
  generalize hF:Bg (Bp (ev R) R.glob (Be X) Bg Bbb) [0,2,3,12,13,14]=F
  simp(maxSteps:=1000000) [Ca,Ja,Ka,J9,G9,Kb,Jb,Jc,Gh,J8,G8,Md,-List.getD_eq_getElem?_getD,-List.map_map,Bbb,h0,hm,p2,p3,Mh,Mi,hr1]
  rw[←hF,Bt]
  generalize hF1:Bg (Bp (ev R) R.glob (Be X) Bg Bbb) [0,2,3,12,13,14]=F1
  simp(maxSteps:=1000000) [Ca,Ja,Ka,J9,G9,Kb,Jb,Jc,Gh,J8,G8,Md,-List.getD_eq_getElem?_getD,-List.map_map,Bbb,h0,hm,p2,p3,Mh,Mi,hr1]
end
theorem Bib {b:Ba} (h:BaO b) {e:En} (hm:Mv b e=true):BaO ⟨b.now,Fa (Co b e.key).ents (Ga (Co b e.key).ents e.key) e⟩∧Xa ⟨b.now,Fa (Co b e.key).ents (Ga (Co b e.key).ents e.key) e⟩ e.key=(e,true)∧Co ⟨b.now,Fa (Co b e.key).ents (Ga (Co b e.key).ents e.key) e⟩ e.key=Co b e.key:=by
 have hb:=By8 h e
 rw[hm] at hb
 have hO:=(F4 _).1 hb
 have hC:=Bck h e.key
 have hp:=Q7 hC.asc e.key
 have hle:=Bkn (Co b e.key).ents e.key
 have hlt: ((Co b e.key).ents.take (Ga (Co b e.key).ents e.key)).length=Ga (Co b e.key).ents e.key:=by rw[List.length_take];omega
 have hnow:=Me b e.key
 generalize Ga (Co b e.key).ents e.key=k at*
 have hk:Ga (Fa (Co b e.key).ents k e) e.key=k:=by
  unfold Ga Fa
  rw[List.takeWhile_append_of_pos (fun x hx=>hp.1 x hx),List.length_append,List.takeWhile_cons,Jh,hlt]
  simp
 have hg: (Fa (Co b e.key).ents k e).getD k default=e:=by
  unfold Fa
  rw[List.getD_eq_getElem?_getD,List.getElem?_append_right (by omega),hlt,Nat.sub_self]
  rfl
 have hh:Fh (Fa (Co b e.key).ents k e) e.key=true:=by
  unfold Fh
  rw[hk,hg,Gt]
  simp;omega
 refine⟨hO, ?_, ?_⟩
 ·unfold Xa Bz
  dsimp only
  rw[hb,hh]
  simp only[and_self,if_true]
  rw[hk,hg]
 ·show(if Fh (Fa (Co b e.key).ents k e) e.key=true then _ else _)=_
  rw[if_pos hh,hk]
  dsimp only
  have hd:Gx (Fa (Co b e.key).ents k e) k=(Co b e.key).ents:=by
   unfold Gx Fa
   rw[List.take_append_of_le_length (by omega),List.take_of_length_le (by omega),List.drop_append,hlt,List.drop_of_length_le (by omega),List.nil_append]
   rw[show k+1 - k=1 by omega,List.drop_succ_cons,List.drop_zero,List.take_append_drop]
  rw[hd,←hnow]
def B1r:Bq:=[71,69,84]
def Bt8:Bq:=[83,69,84]
def Bt9:Bq:=[84,89,80,69]
def B1s:Bq:=[84,84,76]
def Bax:Bq:=[83,84,82,76,69,78]
def B1q:Bq:=[68,69,76]
theorem B1u:Ev.Bc9 (.str B1r) Lm Lp=some (some (Dq [75] 1 (.fn (.func 74) []))):=by kernel_rfl
theorem B1v:Ev.Bc9 (.str Bt8) Lm Lp=some (some (Dq [75,84] 0 (.fn (.func 79) []))):=by kernel_rfl
theorem Byv:Ev.Bc9 (.str Bt9) Lm Lp=some (some (Dq [75] 0 (.fn (.func 144) []))):=by kernel_rfl
theorem B1w:Ev.Bc9 (.str B1s) Lm Lp=some (some (Dq [75] 0 (.fn (.func 145) []))):=by kernel_rfl
theorem Bqy:Ev.Bc9 (.str Bax) Lm Lp=some (some (Dq [75] 1 (.fn (.func 77) []))):=by kernel_rfl
theorem B1t:Ev.Bc9 (.str B1q) Lm Lp=some (some (Dq [75,43] 0 (.fn (.func 142) []))):=by kernel_rfl
abbrev doV (b b':Ba) (rp:Re):V:= .tup [.d (Db (if rp.kind=1 then b else b')), .d (P7 rp)]
theorem sh2 {W t:Bq} (hw:W.length≤40) (ht:1≤t.length∧t.length≤12): ∀x∈[W,t],x.length≤40:=by
 intro x hx
 simp only[List.mem_cons,List.not_mem_nil,or_false] at hx
 rcases hx with rfl|rfl
 ·exact hw
 ·omega
theorem sh3 {W t s:Bq} (hw:W.length≤40) (ht:1≤t.length∧t.length≤12) (hs:s.length≤40): ∀x∈[W,t,s],x.length≤40:=by
 intro x hx
 simp only[List.mem_cons,List.not_mem_nil,or_false] at hx
 rcases hx with rfl|rfl|rfl
 ·exact hw
 ·omega
 ·exact hs
theorem Bvq {b:Ba} {W t:Bq} {k:Int} {c:Nat} {rp:Re} {b':Ba} (hW:Ev.Bc9 (.str W) Lm Lp=some (some (Dq [75] k (.fn (.func c) [])))) (hw:W.length≤40) (hO:BaO b) (ht:1≤t.length∧t.length≤12) (hk:k=0∨Fh b.ents t=false∨(Bz b t).kind=k) (hb':BaSm b') (hr:rp.texts.length≤1000000)
  (hc:Bgr c (dO b (.vals 1 [.str W, .str t]) (.nils 1) (!Fh b.ents t) (eDo b t k)) b' rp):Bc (ev R) 11 [.d (Db b), .d (.vals 1 [.str W, .str t])]=some (doV b b' rp):=
 B0t (xs:=[W,t]) hO hb' (by simp) (sh2 hw ht) hr (B7p hW hO ht hk hc)
theorem B17 {b:Ba} {W t:Bq} {c:Nat} {rp:Re} {b':Ba} (hW:Ev.Bc9 (.str W) Lm Lp=some (some (Dq [75,43] 0 (.fn (.func c) [])))) (hw:W.length≤40) (hO:BaO b) (ht:1≤t.length∧t.length≤12) (hb':BaSm b') (hr:rp.texts.length≤1000000)
  (hc:Bgr c (dO b (.vals 1 [.str W, .str t]) (.nils 1) (!Fh b.ents t) (eDo b t 0)) b' rp):Bc (ev R) 11 [.d (Db b), .d (.vals 1 [.str W, .str t])]=some (doV b b' rp):=
 B0t (xs:=[W,t]) hO hb' (by simp) (sh2 hw ht) hr (B2e hW hO ht hc)
theorem B18 {b:Ba} {W t s:Bq} {c:Nat} {rp:Re} {b':Ba} (hW:Ev.Bc9 (.str W) Lm Lp=some (some (Dq [75,84] 0 (.fn (.func c) [])))) (hw:W.length≤40) (hO:BaO b) (ht:1≤t.length∧t.length≤12) (hs:s.length≤40) (hb':BaSm b') (hr:rp.texts.length≤1000000)
  (hc:Bgr c (dO b (.vals 1 [.str W, .str t, .str s]) (.nils 1) (!Fh b.ents t) (eDo b t 0)) b' rp):Bc (ev R) 11 [.d (Db b), .d (.vals 1 [.str W, .str t, .str s])]=some (doV b b' rp):=
 B0t (xs:=[W,t,s]) hO hb' (by simp) (sh3 hw ht hs) hr (B2f hW hO ht hc)
theorem Yo {b:Ba} {t:Bq} {k:Int} (h:Fh b.ents t=true):eDo b t k=Bz b t:=by unfold eDo;rw[if_pos h]
theorem Bq4 {b:Ba} (hO:BaO b) {t:Bq} (h:Fh b.ents t=true):0≤aV b.ents t:=by rw[Sn hO,if_pos h];omega
theorem Bzv {b:Ba} (hO:BaO b) {t:Bq} (h:Fh b.ents t=false): ¬0≤aV b.ents t:=by rw[Sn hO,h];simp
section
variable {b:Ba} {t:Bq} (hO:BaO b) (ht:1≤t.length∧t.length≤12)
include hO ht
theorem Bq0 (hk:Fh b.ents t=false∨(Bz b t).kind=1):Bc (ev R) 11 [.d (Db b), .d (.vals 1 [.str B1r, .str t])]=some (.tup [.d (Db b), .d (P7 (if Fh b.ents t=true then P5 (Bz b t).text else Qx))]):=by
 have h:=Bvq (rp:=if 0≤aV b.ents t then P5 (eDo b t 1).text else Qx) B1u (by decide) hO ht (.inr hk) hO.g.sm (by split<;>simp[P5,Qx,Re.texts]) ((Bv7 (Brv b t 1) hO.g.sm.len).does)
 rw[h]
 cases hh:Fh b.ents t with
 |true=>rw[if_pos (Bq4 hO hh),Yo hh];simp[P5,Re.kind]
 |false=>rw[if_neg (Bzv hO hh)];simp[Qx,Re.kind]
theorem Bn8 (hk:Fh b.ents t=false∨(Bz b t).kind=1):Bc (ev R) 11 [.d (Db b), .d (.vals 1 [.str Bax, .str t])]=some (.tup [.d (Db b), .d (P7 (Lv (eDo b t 1).text.length))]):=by
 have h:=Bvq (rp:=Lv (eDo b t 1).text.length) Bqy (by decide) hO ht (.inr hk) hO.g.sm (by simp[Lv,Re.texts]) ((Bv8 (.vals 1 [.str Bax, .str t])).does)
 rw[h];simp[Lv,Re.kind]
theorem Bvr (hk:Fh b.ents t=true) (h6:0≤(Bz b t).kind∧(Bz b t).kind<6):Bc (ev R) 11 [.d (Db b), .d (.vals 1 [.str Bt9, .str t])]=some (.tup [.d (Db b), .d (P7 (P5 (Wi.getD (Bz b t).kind.toNat [])))]):=by
 have h:=Bvq (rp:=P5 (if 0≤aV b.ents t then Wi.getD (eDo b t 0).kind.toNat [] else[110,111,110,101])) Byv (by decide) hO ht (.inl rfl) hO.g.sm (by simp[P5,Re.texts]) ((Brt (Brv b t 0) hO.g.sm.len (by rw[Yo hk];exact h6)).does)
 rw[if_pos (Bq4 hO hk),Yo hk] at h
 rw[h];simp[P5,Re.kind]
theorem Bzt (hk:Fh b.ents t=true) (hw: -1000000000≤(Bz b t).till∧(Bz b t).till≤1000000000):Bc (ev R) 11 [.d (Db b), .d (.vals 1 [.str B1s, .str t])]=some (.tup [.d (Db b), .d (P7 (Lv (if(Bz b t).till=0 then -1 else(Bz b t).till - b.now)))]):=by
 have hn:=hO.now
 have h:=Bvq (rp:=Lv (Bx1 b t (eDo b t 0))) B1w (by decide) hO ht (.inl rfl) hO.g.sm (by simp[Lv,Re.texts]) ((Bru (Brv b t 0) hO.g.sm.len (by rw[Yo hk];exact IntWalk.i64_in _ (by omega))).does)
 unfold Bx1 at h
 rw[if_pos (Bq4 hO hk),Yo hk] at h
 rw[h];simp[Lv,Re.kind]
theorem Bzr:Bc (ev R) 11 [.d (Db b), .d (.vals 1 [.str B1q, .str t])]=some (.tup [.d (Db (Co b t)), .d (P7 (Lv (if Fh b.ents t=true then 1 else 0)))]):=by
 have h:=B17 (rp:=Lv (if Fh b.ents t=true then 1 else 0)) B1t (by decide) hO ht (Bck hO t).g.sm (by simp[Lv,Re.texts]) ((Brs hO).does)
 rw[h];simp[Lv,Re.kind]
end
end Go.Proofs.YtpajcoanfkeibaaGreatDoor.Code
