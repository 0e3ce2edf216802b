/- Lemmas (several texts in one). -/
import Derived.Test.YtpajcoanfkeibaaGreatDoorMDoSet3
import Derived.LoopN
import Derived.Scope
import Derived.Below
import Derived.IntWalk
import Derived.SliceStrings
set_option linter.unusedSimpArgs false
set_option linter.unusedVariables false
namespace Go.Ev
open Go
def Gc (P:Program) (nt:Nat):Code→ACode→Bool
 | .skip, .skip=>true
 | .region _ ops draw, .reg draw' aos=> ((draw==draw') &&Mq P ops nt ops.toList aos&& (!draw||Bng ops aos)) || (draw&&Bfb P ops nt aos)
 | .region _ ops draw, .regx L=>draw&&Bz2 P ops nt L
 | .seq x y, .seq a _ b=>Gc P nt x a&&Gc P nt y b
 | .cond c x y, .cond d a b=>Cc d c&&Gc P nt x a&&Gc P nt y b
 | .block i x, .block j a=>Nat.beq i j&&Gc P nt x a
 | .loop x, .loop _ a=>Gc P nt x a
 | .scope x, .scope a=>Gc P nt x a
 |c, .trim _ a=>Gc P nt c a
 |c, .frz _ a=>Gc P nt c a
 | .exit i, .exit j=>Nat.beq i j
 | .ret, .ret=>true
 |_,_=>false
def Out.to:Out→Exit
 | .normal=> .normal
 | .exit id=> .exit id
 | .ret=> .ret
theorem Bsb (env:Env) (lv:List Nat) (t:Nat): ((env.keep lv).get t).ok=true→(env.keep lv).get t=env.get t:=by
 induction lv with
 |nil=>intro h;simp[Env.keep,Env.get,V.ok] at h
 |cons k lv ih=>
  simp only[Env.keep,Env.get]
  cases hb:Nat.beq k t with
  |true=>intro _;rw[Nat.eq_of_beq_eq_true hb];rfl
  |false=>exact ih
section
variable {P:Program} {cl:Fv} {G:G6} {Bd:Nat→Prop} {w0:World} {O0:Jw} {pl0:Pl} {n0 nt:Nat}
theorem Rel.keep {st:St} {a:Act} {w:World} (h:Rel G Bd w0 O0 pl0 n0 nt st a w) (lv:List Nat):Rel G Bd w0 O0 pl0 n0 nt ⟨st.env.keep lv,st.hp⟩ a w:=by
 obtain⟨⟨pl,h1,h2,h3,h4,h5,h6⟩,h7,h8⟩:=h
 refine⟨⟨pl,h1,fun t ht=> ?_,h3,h4,h5,h6⟩,h7,h8⟩
 have:=Bsb st.env lv t ht
 rw[this] at ht⊢
 exact h2 t ht
def B2a (lp: (St→Option (Out×St))→List Nat→St→Option (Out×St)):Prop:=∀f lv st r,lp f lv st=some r→∃n,Jm f lv n st=some r
theorem RV.lowT {w:World} {O:Jw} {pl:Pl} {n m:Nat} {v:V} {u:Value} (h:RV w O pl n v u) (hb:Go.Ev.Xt m v=true):RV w O pl m v u:=by
 cases h with
 |d x u h=>exact .d x u h
 |agg cs us hl h1 h=>exact RV.lower (.agg cs us hl h1 h) hb (Nat.le_refl _)
 |tup cs us hl h=>simp[Go.Ev.Xt,Ko,F8] at hb
 |nils e a=>exact .nils e a
 |any u=>exact .any u
 |slc r' g i k b e c hlt hp hk=>exact RV.lower1 (.slc r' g i k b e c hlt hp hk) hb (Nat.le_refl _)
 |slc0 r' g i a cap hi hlt=>exact RV.lower1 (.slc0 r' g i a cap hi hlt) hb (Nat.le_refl _)
 |ptr r' g i j b e c hlt hp=>exact RV.lower1 (.ptr r' g i j b e c hlt hp) hb (Nat.le_refl _)
 |fn f cs us hl h=>
  refine .fn f cs us hl fun i hi=> (h i hi).lower1 (r:=m) ?_ (Nat.le_refl _)
  simp only[Go.Ev.Xt,List.all_eq_true] at hb
  have:cs.getD i .any=cs[i]:=by simp[List.getD_eq_getElem?_getD,hi]
  rw[this]
  exact hb _ (List.getElem_mem hi)
 |mref r b e c hr h=>exact .mref r b e c (by simpa[Go.Ev.Xt] using hb) h
 |und=>exact .und
theorem Bhm (env:Env): ∀ (lv:List Nat) (t:Nat),(t∈lv∧(env.keep lv).get t=env.get t)∨(env.keep lv).get t= .any
 | [],t=> .inr rfl
 |k::lv,t=>by
  simp only[Env.keep,Env.get]
  cases hb:Nat.beq k t with
  |true=>rw[Nat.eq_of_beq_eq_true hb];exact .inl ⟨by simp,rfl⟩
  |false=>
   rcases Bhm env lv t with⟨h1,h2⟩ |h
   ·exact .inl ⟨by simp[h1],h2⟩
   ·exact .inr h
theorem HR.fewer {w:World} {pl:Pl} {Bd Bd':Nat→Prop} {H:Hp} (h:HR w pl Bd H) (hb: ∀m,Bd' m→Bd m):HR w pl Bd' H:=
 ⟨h.obj,h.inj,fun m hm=>h.bd m (hb m hm),fun m hm=>h.le m (hb m hm)⟩
theorem Ba4 (hm:P.follows .mixedOrders=true) (hcl:Gj P G cl) {lp: (St→Option (Out×St))→List Nat→St→Option (Out×St)} (hlp:B2a lp):
  ∀ (ac:ACode) (c:Code),Gc P nt c ac=true→∀ {Bd:Nat→Prop} {w0:World} {O0:Jw} {pl0:Pl} {n0:Nat} {B:Bn} (hn0:Rm Bd B) (st:St) (out:Out) (st':St),Bp cl G B lp ac st=some (out,st')→∀ (a:Act) (w:World) (Q:Exit→Act→World→Prop),Rel G Bd w0 O0 pl0 n0 nt st a w→
   (∀a' w',Rel G Bd w0 O0 pl0 n0 nt st' a' w'→Q out.to a' w')→c.wp P Q a w:=by
 intro ac
 induction ac with
 |skip=>
  intro c hc Bd w0 O0 pl0 n0 B hn0 st out st' h a w Q hR hQ
  cases c<;>simp only[Gc,Bool.false_eq_true] at hc
  simp only[Bp,Option.some.injEq,Prod.mk.injEq] at h
  obtain⟨rfl,rfl⟩:=h
  exact wp_skip (hQ a w hR)
 |reg draw aos=>
  intro c hc Bd w0 O0 pl0 n0 B hn0 st out st' h a w Q hR hQ
  cases c<;>simp only[Gc,Bool.false_eq_true] at hc
  rename_i id ops dr
  rw[Bool.or_eq_true,Bool.and_eq_true,Bool.and_eq_true,Bool.or_eq_true,Bool.and_eq_true] at hc
  simp only[Bp] at h
  split at h
  ·rename_i s1 h1
   simp only[Option.some.injEq,Prod.mk.injEq] at h
   obtain⟨rfl,rfl⟩:=h
   rcases hc with hc| ⟨rfl,hc⟩
   ·exact Bpt hm hcl hn0 hc.1.2 (fun hd=>hc.2.resolve_left (by simp[hd])) hR h1 hQ
   ·exact Blo hm hcl hn0 hc hR h1 hQ
  ·simp at h
 |regx L=>
  intro c hc Bd w0 O0 pl0 n0 B hn0 st out st' h a w Q hR hQ
  cases c<;>simp only[Gc,Bool.false_eq_true] at hc
  rename_i id ops dr
  rw[Bool.and_eq_true] at hc
  obtain⟨rfl,hc⟩:=hc
  simp only[Bp] at h
  split at h
  ·rename_i s1 h1
   simp only[Option.some.injEq,Prod.mk.injEq] at h
   obtain⟨rfl,rfl⟩:=h
   exact Blp hm hcl hn0 hc hR h1 hQ
  ·simp at h
 |seq x lv y ihx ihy=>
  intro c hc Bd w0 O0 pl0 n0 B hn0 st out st' h a w Q hR hQ
  cases c<;>simp only[Gc,Bool.false_eq_true] at hc
  rename_i cx cy
  rw[Bool.and_eq_true] at hc
  simp only[Bp] at h
  refine wp_seq ?_
  split at h
  ·rename_i s1 h1
   exact ihx cx hc.1 hn0 st .normal s1 h1 a w _ hR fun a' w' hR'=>ihy cy hc.2 hn0 _ out st' h a' w' Q (hR'.keep lv) hQ
  ·rename_i hne
   refine ihx cx hc.1 hn0 st out st' h a w _ hR fun a' w' hR'=> ?_
   have:=hQ a' w' hR'
   cases out with
   |normal=>exact absurd h (hne st')
   |exit id=>exact this
   |ret=>exact this
 |cond d x y ihx ihy=>
  intro c hc Bd w0 O0 pl0 n0 B hn0 st out st' h a w Q hR hQ
  cases c<;>simp only[Gc,Bool.false_eq_true] at hc
  rename_i oc cx cy
  rw[Bool.and_eq_true,Bool.and_eq_true] at hc
  simp only[Bp] at h
  split at h
  ·rename_i t ht
   have hv:a.eval oc= .bool t:=by
    obtain⟨⟨pl,h1,h2,h3,h4,h5,h6⟩,h7,h8⟩:=hR
    have:=Cw hc.1.1 h3 h2 (by rw[ht];rfl)
    rw[ht] at this
    exact this.bool_eq
   refine wp_cond hv ?_
   cases t with
   |true=>exact ihx cx hc.1.2 hn0 st out st' h a w Q hR hQ
   |false=>exact ihy cy hc.2 hn0 st out st' h a w Q hR hQ
  ·simp at h
 |block id x ih=>
  intro c hc Bd w0 O0 pl0 n0 B hn0 st out st' h a w Q hR hQ
  cases c<;>simp only[Gc,Bool.false_eq_true] at hc
  rename_i id' cx
  rw[Bool.and_eq_true] at hc
  have hid:=Nat.eq_of_beq_eq_true hc.1
  subst hid
  simp only[Bp] at h
  refine wp_block ?_
  split at h
  ·rename_i k s1 h1
   refine ih cx hc.2 hn0 st _ s1 h1 a w _ hR fun a' w' hR'=> ?_
   show Exit.inBlock id' Q (.exit k) a' w'
   simp only[Exit.inBlock]
   cases hb:Nat.beq k id' with
   |true=>
    rw[if_pos (Nat.eq_of_beq_eq_true hb)]
    rw[hb] at h
    simp only[cond_true,Option.some.injEq,Prod.mk.injEq] at h
    obtain⟨rfl,rfl⟩:=h
    exact hQ a' w' hR'
   |false=>
    rw[if_neg (fun he=>by subst he;simp at hb)]
    rw[hb] at h
    simp only[cond_false,Option.some.injEq,Prod.mk.injEq] at h
    obtain⟨rfl,rfl⟩:=h
    exact hQ a' w' hR'
  ·rename_i hne
   refine ih cx hc.2 hn0 st out st' h a w _ hR fun a' w' hR'=> ?_
   have:=hQ a' w' hR'
   cases out with
   |normal=>exact this
   |exit k=>exact absurd h (hne k st')
   |ret=>exact this
 |loop lv x ih=>
  intro c hc Bd w0 O0 pl0 n0 B hn0 st out st' h a w Q hR hQ
  cases c<;>simp only[Gc,Bool.false_eq_true] at hc
  rename_i cx
  simp only[Bp] at h
  obtain⟨n,hn⟩:=hlp _ _ _ _ h
  refine wp_loop_rounds n ?_
  clear h
  induction n generalizing st a w with
  |zero=>simp[Jm] at hn
  |succ n ihn=>
   simp only[Jm] at hn
   show cx.wp P _ a w
   split at hn
   ·rename_i s1 h1
    exact ih cx hc hn0 _ .normal s1 h1 a w _ (hR.keep lv) fun a' w' hR'=>ihn s1 a' w' hR' hn
   ·rename_i hne
    refine ih cx hc hn0 _ out st' hn a w _ (hR.keep lv) fun a' w' hR'=> ?_
    have:=hQ a' w' hR'
    cases out with
    |normal=>exact absurd hn (hne st')
    |exit id=>exact this
    |ret=>exact this
 |scope x ih=>
  intro c hc Bd w0 O0 pl0 n0 B hn0 st out st' h a w Q hR hQ
  cases c<;>simp only[Gc,Bool.false_eq_true] at hc
  rename_i cx
  simp only[Bp] at h
  refine wp_scope_straight (ih cx hc hn0 st out st' h a w _ hR fun a' w' hR'=> ?_)
  have:=hQ a' w' hR'
  cases out<;>exact this
 |trim lv x ih=>
  intro c hc Bd w0 O0 pl0 n0 B hn0 st out st' h a w Q hR hQ
  have hc':Gc P nt c x=true:=by
   cases c<;>exact hc
  obtain⟨⟨pl,h1,h2,h3,h4,h5,h6⟩,h7,h8⟩:=hR
  have hn1:Rm (fun m=>Bd m∨m=Be st.hp) ⟨B.n,Be st.hp::B.ts⟩:=fun m hm=>by
   rcases hm with hm|rfl
   ·rcases hn0 m hm with h|h
    ·exact .inl h
    ·exact .inr (List.mem_cons_of_mem _ h)
   ·exact .inr (List.mem_cons_self ..)
  have hR1:Rel G (fun m=>Bd m∨m=Be st.hp) w (Bl pl st.hp) pl (Be st.hp) nt st a w:=⟨⟨pl,h1.enter,h2,h3,Ext.refl _ _,PlExt.refl _ _,Nat.le_refl _⟩,h7,h8⟩
  simp only[Bp] at h
  cases hx:Bp cl G ⟨B.n,Be st.hp::B.ts⟩ lp x st with
  |none=>rw[hx] at h;simp at h
  |some p=>
   obtain⟨o,s1⟩:=p
   rw[hx] at h
   refine ih c hc' hn1 st o s1 hx a w Q hR1 fun a' w' hR'=> ?_
   obtain⟨⟨pl',k1,k2,k3,k4,k5,k6⟩,k7,k8⟩:=hR'
   have other: (out=o∧st'=s1)→Q o.to a' w':=by
    rintro⟨rfl,rfl⟩
    exact hQ a' w' ⟨⟨pl',k1.fewer (fun m hm=> .inl hm),k2,k3,h4.trans k4,h5.trans (k5.le h6),Nat.le_trans h6 k6⟩,k7,k8⟩
   cases o with
   |normal=>
    simp only at h
    split at h
    ·rename_i hlow
     simp only[Option.some.injEq,Prod.mk.injEq] at h
     obtain⟨rfl,rfl⟩:=h
     obtain⟨t1,t2⟩:=k1.take (Be st.hp) (Or.inr rfl) (Bd':=Bd) (fun m hm=> ⟨Or.inl hm,h1.le m hm⟩)
     refine hQ a' w' ⟨⟨pl',t1,fun t ht=> ?_,k3.mono t2,h4.trans (k4.trans t2),h5.trans (k5.le h6),by rw[Gf k6];exact h6⟩,k7,k8⟩
     rw[Gf k6]
     rcases Bhm s1.env lv t with⟨g1,g2⟩ |g
     ·rw[g2] at ht⊢
      have:=List.all_eq_true.1 hlow t g1
      exact((k2 t ht).lowT this).mono t2 (PlExt.refl _ _) (Nat.le_refl _)
     ·rw[g] at ht;simp[V.ok] at ht
    ·simp at h
   |exit id=>exact other (by simpa using h.symm)
   |ret=>exact other (by simpa using h.symm)
 |frz ts x ih=>
  intro c hc Bd w0 O0 pl0 n0 B hn0 st out st' h a w Q hR hQ
  have hc':Gc P nt c x=true:=by
   cases c<;>exact hc
  simp only[Bp] at h
  split at h
  ·rename_i e1 H1 hf
   obtain⟨⟨pl,h1,h2,h3,h4,h5,h6⟩,h7,h8⟩:=hR
   obtain⟨k1,k2,k3,k4⟩:=Bna ts h1 h2 hf
   exact ih c hc' hn0 _ out st' h a w Q ⟨⟨pl,k1,by rw[←k3] at k4;exact k4,h3.mono k2,h4.trans k2,h5,by rw[k3];exact h6⟩,h7,h8⟩ hQ
  ·simp at h
 |exit id=>
  intro c hc Bd w0 O0 pl0 n0 B hn0 st out st' h a w Q hR hQ
  cases c<;>simp only[Gc,Bool.false_eq_true] at hc
  have hid:=Nat.eq_of_beq_eq_true hc
  subst hid
  simp only[Bp,Option.some.injEq,Prod.mk.injEq] at h
  obtain⟨rfl,rfl⟩:=h
  exact wp_exit (hQ a w hR)
 |ret=>
  intro c hc Bd w0 O0 pl0 n0 B hn0 st out st' h a w Q hR hQ
  cases c<;>simp only[Gc,Bool.false_eq_true] at hc
  simp only[Bp,Option.some.injEq,Prod.mk.injEq] at h
  obtain⟨rfl,rfl⟩:=h
  exact wp_ret (hQ a w hR)
end
section
variable {P:Program}
theorem Bpx {α β γ:Type} (x:Sem α) (f:α→Sem β) (g:β→Sem γ): (x.bind f).bind g=x.bind (fun a=> (f a).bind g):=by
 induction x<;>simp only[Sem.bind]<;>first|rfl| (congr 1;funext y;apply_assumption) |simp_all
theorem Ws:LawfulMonad Sem:=LawfulMonad.mk' Sem (id_map:=by intro α x;show Sem.bind x _=x;induction x<;>simp only[Sem.bind]<;>first|rfl| (congr 1;funext y;apply_assumption) |simp_all) (pure_bind:=fun _ _=>rfl) (bind_assoc:=fun x f g=>Bpx x f g)
theorem Biv {α:Type} {f:α→Sem Value} {w:World} : ∀ {ags:List α} {us:List Value},us.length=ags.length→(∀i x,ags[i]? =some x→(f x).run P w= .ok (us.getD i undef) w)→(ags.mapM f).run P w= .ok us w
 | [],[],_,_=>by haveI:=Ws;simp[List.mapM_nil]
 | [],_::_,h,_=>by simp at h
 |_::_,[],h,_=>by simp at h
 |a::ags,u::us,hl,h=>by
  haveI:=Ws
  have h0:=h 0 a (by simp)
  have h1:=Biv (ags:=ags) (us:=us) (by simpa using hl) (fun i x hx=>h (i+1) x (by simpa using hx))
  rw[List.mapM_cons,Sem.run_bind,h0]
  simp only[List.getD_cons_zero]
  show Sem.run P (List.mapM f ags>>=fun l=>pure (u::l)) w=_
  rw[Sem.run_bind,h1]
  rfl
theorem Blv {α:Type} {f:α→Sem Value} {ags:Array α} {us:List Value} {w:World} (hl:us.length=ags.toList.length) (h: ∀i x,ags.toList[i]? =some x→(f x).run P w= .ok (us.getD i undef) w): (ags.mapM f).run P w= .ok us.toArray w:=by
 haveI:=Ws
 rw[Array.mapM_eq_mapM_toList,map_eq_pure_bind,Sem.run_bind,Biv hl h]
 rfl
def Tt (P:Program):List ARes→List ResultVar→Bool
 | [],[]=>true
 | .tmp t::r, .tmp u::s=>Nat.beq t u&&Tt P r s
 | .cell t ag n::r, .cell u ty::s=>Nat.beq t u&&Sg P ty ag&&Mk P ty n&&Tt P r s
 |_,_=>false
def Bcs (vs:Array Value):Value:=if h:vs.size=1 then vs[0] else .tuple vs
variable {w:World} {pl:Pl} {Bd:Nat→Prop} {H:Hp} {env:Env} {a:Act}
def Bcr (P:Program) (a:Act) (w:World) (x:ResultVar) (u:Value):Prop:=(match x with
 | .tmp t=> (pure (a.tmps.getD t undef):Sem Value)
 | .cell c t=>do loadVar t (←asAddr (a.tmps.getD c undef))).run P w= .ok u w
theorem Blq (hH:HR w pl Bd H) (hE:RE w (Bl pl H) pl (Be H) env a): ∀ (rs:List ARes) (xs:List ResultVar) (vs:List V),Tt P rs xs=true→Tq env H rs=some vs→
  ∃us:List Value,us.length=xs.length∧vs.length=xs.length∧(∀i x,xs[i]? =some x→Bcr P a w x (us.getD i undef))∧∀i,i<vs.length→(vs.getD i .any).ok=true→RV w (Bl pl H) pl (Be H) (vs.getD i .any) (us.getD i undef)
 | [],[],vs,_,h=>by
  simp only[Tq,Option.some.injEq] at h;subst h
  exact⟨[],rfl,rfl,fun i x hx=>by simp at hx,fun i hi=>by simp at hi⟩
 | [],_::_,_,hc,_=>by simp[Tt] at hc
 | .tmp _::_,[],_,hc,_=>by simp[Tt] at hc
 | .cell _ _ _::_,[],_,hc,_=>by simp[Tt] at hc
 | .tmp _::_, .cell _ _::_,_,hc,_=>by simp[Tt] at hc
 | .cell _ _ _::_, .tmp _::_,_,hc,_=>by simp[Tt] at hc
 | .tmp t::rs, .tmp u::xs,vs,hc,h=>by
  simp only[Tt,Bool.and_eq_true] at hc
  have htu:=Nat.eq_of_beq_eq_true hc.1
  subst htu
  simp only[Tq] at h
  split at h
  ·rename_i vs' hvs
   simp only[Option.some.injEq] at h;subst h
   obtain⟨us,h1,h2,h3,h4⟩:=Blq hH hE rs xs vs' hc.2 hvs
   refine⟨a.tmps.getD t undef::us,by simp[h1],by simp[h2],fun i x hx=> ?_,fun i hi hk=> ?_⟩
   ·cases i with
    |zero=>simp only[List.getElem?_cons_zero,Option.some.injEq] at hx;subst hx;simp[Bcr]
    |succ i=>exact h3 i x (by simpa using hx)
   ·cases i with
    |zero=>exact hE t hk
    |succ i=>exact h4 i (by simpa using hi) hk
  ·simp at h
 | .cell t ag n::rs, .cell u ty::xs,vs,hc,h=>by
  simp only[Tt,Bool.and_eq_true] at hc
  obtain⟨⟨⟨c1,c2⟩,c3⟩,c4⟩:=hc
  have htu:=Nat.eq_of_beq_eq_true c1
  subst htu
  simp only[Tq] at h
  split at h
  ·rename_i p g i j hp
   split at h
   ·rename_i cs hcs
    split at h
    ·rename_i v vs' hv hvs
     simp only[Option.some.injEq] at h;subst h
     obtain⟨us,h1,h2,h3,h4⟩:=Blq hH hE rs xs vs' c4 hvs
     have hu:=hE t (by rw[hp];rfl)
     rw[hp] at hu
     obtain⟨b,off,uc,hue,hrc,hn,hk⟩:=Bhr hH hcs hu
     obtain⟨x,hrun,hrv⟩:=Tu c2 c3 hn hk hrc hv
     refine⟨x::us,by simp[h1],by simp[h2],fun i y hy=> ?_,fun i hi hk=> ?_⟩
     ·cases i with
      |zero=>simp only[List.getElem?_cons_zero,Option.some.injEq] at hy;subst hy;simp[Bcr,hue,asAddr,hrun]
      |succ i=>exact h3 i y (by simpa using hy)
     ·cases i with
      |zero=>exact hrv
      |succ i=>exact h4 i (by simpa using hi) hk
    ·simp at h
   ·simp at h
  ·simp at h
theorem Biw {fn:Func} {us:List Value} (hl:us.length=fn.results.toList.length) (h: ∀i x,fn.results.toList[i]? =some x→Bcr P a w x (us.getD i undef)): (results fn a.tmps).run P w= .ok (Bcs us.toArray) w:=by
 unfold results
 rw[Sem.run_bind,Blv hl (fun i x hx=>by
  have:=h i x hx
  unfold Bcr at this
  exact this)]
 rfl
theorem Bot {n:Nat} {v v':V} (h:fzV n H v=some v'):v.ok=true:=by
 cases v<;>first|rfl| (simp[fzV,fzA,Td,fz,Nl] at h)
theorem Btg {O:Jw} {n:Nat} {ws:List V} {us:List Value} (hl:us.length=ws.length) (h: ∀i,i<ws.length→RV w O pl n (ws.getD i .any) (us.getD i undef)):RV w O pl n (Bc4 ws) (Bcs us.toArray):=by
 match ws,us,hl,h with
 | [v],[u],_,h=>simpa[Bc4,Bcs] using h 0 (by simp)
 | [],[],_,h=>exact .tup _ _ rfl (fun i hi=>by simp at hi)
 |v::v2::vs,us,hl,h=>
  have:us.length≠1:=by simp at hl;omega
  have h1:Bcs us.toArray= .tuple us.toArray:=by simp[Bcs,this]
  rw[h1]
  refine .tup _ _ (by simpa using hl) fun i hi=> ?_
  have:=h i hi
  simpa[List.getD_eq_getElem?_getD] using this
structure OwnInv (w:World) (pl0:Pl) (H0:Hp) (n:Nat) (H:Hp) (plb:Pl) (Bd:Nat→Prop) (base:Hp):Prop where
 obj: ∀r o,Ce base r=some o→OR w (Bl pl0 H0) plb (Be base) r o
 inj: ∀r r' b,Gv plb base r=some b→Gv plb base r'=some b→r=r'
 bd: ∀m,Bd m→∀r o,r<m→Ce base r=some o→OR w (Bl pl0 H0) plb m r o
 bdle: ∀m,Bd m→m≤n
 le:n≤Be base
 ple:PlExt n pl0 plb
 same: ∀r o,Ce H r=some o→o= .dead∨Ce H0 r=some o
 own: ∀b,Bl plb base b→Bl pl0 H0 b
 apart: ∀r b,n≤r→Gv pl0 H r=some b→¬Bl plb base b
theorem OwnInv.ext {pl0:Pl} {H0:Hp} {n:Nat} {plb:Pl} {base:Hp} (h:OwnInv w pl0 H0 n H plb Bd base):Ext w (Bl pl0 H0) w (Bl plb base):=
 ⟨rfl,rfl,rfl,Nat.le_refl _,fun b _ hO=> ⟨rfl,fun hb=>hO (h.own b hb)⟩⟩
theorem OwnInv.hr {pl0:Pl} {H0:Hp} {n:Nat} {plb:Pl} {base:Hp} (h:OwnInv w pl0 H0 n H plb Bd base):HR w plb Bd base:=
 ⟨fun r o ho=> (h.obj r o ho).mono h.ext (PlExt.refl _ _) (Nat.le_refl _) rfl (fun _ _ _ _ _=>rfl),h.inj,fun m hm r o hr ho=> (h.bd m hm r o hr ho).mono h.ext (PlExt.refl _ _) (Nat.le_refl _) rfl (fun _ _ _ _ _=>rfl),
  fun m hm=>Nat.le_trans (h.bdle m hm) h.le⟩
structure OwnTo (w:World) (pl0:Pl) (H0:Hp) (n:Nat) (plb:Pl) (Bd:Nat→Prop) (base:Hp) (H':Hp) (plb':Pl) (base':Hp):Prop where
 inv:OwnInv w pl0 H0 n H' plb' Bd base'
 ple:PlExt (Be base) plb plb'
 le:Be base≤Be base'
theorem Bh0 {pl0:Pl} {H0:Hp} {n:Nat} {B0:Nat→Prop} (hH0:HR w pl0 B0 H0) {plb:Pl} {base:Hp} (hI:OwnInv w pl0 H0 n H plb Bd base) {r g e b c:Nat} {xs ys:List V} {arr:Array Value} {ty:TypeId} {fr:Nat×Nat} (hge:n≤r) (hgr:Ce H r=some (.row g e xs)) (hg0:Ce H0 r=some (.row g e xs))
  (hp:pl0 r g=some (b,e,c)) (hh:w.heap[b]? =some (.cells arr ty fr)) (hsa:arr.size=c*e) (hf:M8 fr arr.size) (hyc:ys.length≤c) (hye: ∀i,i<ys.length→(ys.getD i .any).cells.length=e)
  (hyr: ∀i j,i<ys.length→j<e→RV w (Bl pl0 H0) plb (Be base) ((ys.getD i .any).cells.getD j .any) (arr.getD (i*e+j) undef)) (h1: ∀i j,i<ys.length→j<e→(arr.getD (i*e+j) undef).oneCell'=true):
  OwnTo w pl0 H0 n plb Bd base (Bw H r .dead) (K7 plb (Be base) (b,e,c)) (Bu base (.row 0 e ys)):=by
 have hbl0:Gv pl0 H0 r=some b:=by simp[Gv,hg0,hp]
 have hbl:Gv pl0 H r=some b:=by simp[Gv,hgr,hp]
 have hnb: ¬Bl plb base b:=hI.apart r b hge hbl
 have hbn:Gv (K7 plb (Be base) (b,e,c)) (Bu base (.row 0 e ys)) (Be base)=some b:=by simp[Gv,Dz,Jk]
 have hcase: ∀r' b',Gv (K7 plb (Be base) (b,e,c)) (Bu base (.row 0 e ys)) r'=some b'→(r'=Be base∧b'=b)∨(r'<Be base∧Gv plb base r'=some b'):=by
  intro r' b' hr'
  rcases Nat.lt_trichotomy r' (Be base) with hlt|heq|hgt
  ·exact .inr ⟨hlt,by rwa[Zh hlt] at hr'⟩
  ·subst heq;rw[hbn] at hr';exact .inl ⟨rfl,by simpa using hr'.symm⟩
  ·obtain⟨o',ho'⟩:=Qm hr'
   have:=Ff ho'
   rw[Cg] at this
   omega
 have hpl:PlExt (Be base) plb (K7 plb (Be base) (b,e,c)):=fun r hr g p hp=>by rw[Lj (by omega)];exact hp
 have hle:=hI.le
 have hkill: ∀r' b',Gv pl0 (Bw H r .dead) r'=some b'→r'≠r∧Gv pl0 H r'=some b':=by
  intro r' b' hb
  by_cases hne:r'=r
  ·subst hne
   obtain⟨o,ho⟩:=Qm hb
   have:=Ff ho
   rw[Br] at this
   unfold Gv at hb
   rw[Cn _ this] at hb
   simp at hb
  ·refine⟨hne, ?_⟩
   unfold Gv at hb⊢
   rwa[Gd _ hne] at hb
 refine⟨⟨?_, ?_, ?_,hI.bdle,by rw[Cg];omega,hI.ple.trans (hpl.le hle), ?_, ?_, ?_⟩,hpl,by rw[Cg];omega⟩
 ·intro r' o ho
  have hlt:=Ff ho
  rw[Cg] at hlt⊢
  rcases Nat.lt_or_eq_of_le (Nat.lt_succ_iff.1 hlt) with hlt'|heq
  ·rw[Fg _ hlt'] at ho
   exact(hI.obj r' o ho).mono (Ext.refl _ _) hpl (by omega) (by rw[Lj (by omega)]) (fun _ _ _ _ _=>rfl)
  ·subst heq
   rw[Dz] at ho
   obtain rfl:=Option.some.inj ho
   refine .row 0 e ys b c arr ty fr (Jk ..) hh hsa hf hyc hye (fun i' j hi hj=> ?_) h1 (fun g' hg'=> ?_)
   ·exact(hyr i' j hi hj).mono (Ext.refl _ _) hpl (by omega)
   ·show(if Be base=Be base then(if g'=0 then some (b,e,c) else none) else plb (Be base) g')=none
    rw[if_pos rfl,if_neg (by omega)]
 ·intro r1 r2 b1 k1 k2
  rcases hcase _ _ k1 with⟨x1,y1⟩ | ⟨x1,y1⟩<;>rcases hcase _ _ k2 with⟨x2,y2⟩ | ⟨x2,y2⟩
  ·omega
  ·exact absurd ⟨r2,by rw[y2,y1]⟩ hnb
  ·exact absurd ⟨r1,by rw[y1,y2]⟩ hnb
  ·exact hI.inj r1 r2 b1 y1 y2
 ·intro m hm r' o hr' ho
  have hmn:=hI.bdle m hm
  rw[Fg _ (by omega)] at ho
  exact(hI.bd m hm r' o hr' ho).mono (Ext.refl _ _) (hpl.le (by omega)) (Nat.le_refl _) (by rw[Lj (by omega)]) (fun _ _ _ _ _=>rfl)
 ·intro r' o ho
  by_cases hne:r'=r
  ·subst hne
   have:=Ff ho
   rw[Br] at this
   rw[Cn _ this] at ho
   exact .inl (by simpa using ho.symm)
  ·rw[Gd _ hne] at ho
   exact hI.same r' o ho
 ·rintro b' ⟨r',hr'⟩
  rcases hcase _ _ hr' with⟨x1,rfl⟩ | ⟨x1,y1⟩
  ·exact⟨r,hbl0⟩
  ·exact hI.own b' ⟨r',y1⟩
 ·rintro r' b' hn hb' ⟨r2,hr2⟩
  obtain⟨hne,hb2⟩:=hkill r' b' hb'
  rcases hcase _ _ hr2 with⟨x1,rfl⟩ | ⟨x1,y1⟩
  ·obtain⟨o,ho⟩:=Qm hb2
   rcases hI.same r' o ho with rfl|h0
   ·simp[Gv,ho] at hb2
   ·have:Gv pl0 H0 r'=some b':=by
     unfold Gv at hb2⊢
     rw[ho] at hb2
     rw[h0];exact hb2
    exact hne (hH0.inj r' r b' this hbl0)
  ·exact hI.apart r' b' hn hb2 ⟨r2,y1⟩
theorem Bhz {pl0:Pl} {H0:Hp} {n:Nat} {B0:Nat→Prop} (hH0:HR w pl0 B0 H0) {plb:Pl} {base:Hp} (hI:OwnInv w pl0 H0 n H plb Bd base) {r g e:Nat} {xs:List V} {ds:List D} (hge:n≤r) (hrow:Cz H r g=some (e,xs)) (hds:Gu xs=some ds):
  ∃b c,pl0 r g=some (b,e,c)∧OwnTo w pl0 H0 n plb Bd base (Bw H r .dead) (K7 plb (Be base) (b,e,c)) (Bu base (.row 0 e xs)):=by
 have hxs:=Kr hds
 have hgr:=J6 hrow
 rcases hI.same r _ hgr with hd|hg0
 ·simp at hd
 obtain⟨b,c,arr,ty,fr,hp,hh,hsa,hf,hxc,he,hr,h1,_⟩:=Jo hH0 (show Cz H0 r g=some (e,xs) by simp[Cz,hg0])
 refine⟨b,c,hp,Bh0 hH0 hI hge hgr hg0 hp hh hsa hf hxc he (fun i' j hi hj=> ?_) h1⟩
 have:=hr i' j hi hj
 subst hxs
 have hi':i'<ds.length:=by simpa using hi
 have hel:=he i' hi
 rw[Dk ds i' hi',L8] at hel
 rw[List.length_map] at hel
 rw[Bkk hi' (by omega)] at this⊢
 exact .d _ _ this.dd
theorem Bnh {pl0:Pl} {H0:Hp} {n:Nat} {B0:Nat→Prop} (hH0:HR w pl0 B0 H0) {plb:Pl} {base:Hp} (hI:OwnInv w pl0 H0 n H plb Bd base) {v v':V} {H' base':Hp} (h:Wo n H base v=some (v',H',base')) {u:Value} (hu:RV w (Bl pl0 H0) pl0 (Be H0) v u):
  ∃plb',OwnTo w pl0 H0 n plb Bd base H' plb' base'∧RV w (Bl pl0 H0) plb' (Be base') v' u:=by
 have hle:=hI.le
 unfold Wo at h
 split at h
 ·simp only[Option.some.injEq,Prod.mk.injEq] at h
  obtain⟨rfl,rfl,rfl⟩:=h
  exact⟨plb,⟨hI,PlExt.refl _ _,Nat.le_refl _⟩, .d _ _ hu.dd⟩
 ·simp only[Option.some.injEq,Prod.mk.injEq] at h
  obtain⟨rfl,rfl,rfl⟩:=h
  refine⟨plb,⟨hI,PlExt.refl _ _,Nat.le_refl _⟩, ?_⟩
  cases hu with
  |nils=>exact .nils _ _
 ·rename_i r g i k
  split at h
  ·rename_i hlt
   simp only[Option.some.injEq,Prod.mk.injEq] at h
   obtain⟨rfl,rfl,rfl⟩:=h
   refine⟨plb,⟨hI,PlExt.refl _ _,Nat.le_refl _⟩, ?_⟩
   cases hu with
   |slc _ _ _ _ b e c _ hp hk=>exact .slc _ _ _ _ b e c (by omega) (hI.ple r hlt g _ hp) hk
   |slc0 _ _ _ A cap hi _=>exact .slc0 _ _ _ A cap hi (by omega)
  ·rename_i hge
   split at h
   ·rename_i e xs hrow
    split at h
    ·rename_i ds hds
     simp only[Option.some.injEq,Prod.mk.injEq] at h
     obtain⟨rfl,rfl,rfl⟩:=h
     obtain⟨b,c,hp,ht⟩:=Bhz hH0 hI (by omega) hrow hds
     refine⟨_,ht, ?_⟩
     cases hu with
     |slc _ _ _ _ b2 e2 c2 hr2 hp2 hk=>
      rw[hp] at hp2
      simp only[Option.some.injEq,Prod.mk.injEq] at hp2
      obtain⟨rfl,rfl,rfl⟩:=hp2
      exact .slc _ _ _ _ b e c (by rw[Cg];omega) (Jk ..) hk
     |slc0 _ _ _ A cap hi _=>omega
    ·simp at h
   ·simp at h
 ·rename_i r g i k
  split at h
  ·rename_i hlt
   simp only[Option.some.injEq,Prod.mk.injEq] at h
   obtain⟨rfl,rfl,rfl⟩:=h
   refine⟨plb,⟨hI,PlExt.refl _ _,Nat.le_refl _⟩, ?_⟩
   cases hu with
   |ptr _ _ _ _ b e c _ hp=>exact .ptr _ _ _ _ b e c (by omega) (hI.ple r hlt g _ hp)
  ·rename_i hge
   split at h
   ·rename_i e xs hrow
    split at h
    ·rename_i ds hds
     simp only[Option.some.injEq,Prod.mk.injEq] at h
     obtain⟨rfl,rfl,rfl⟩:=h
     obtain⟨b,c,hp,ht⟩:=Bhz hH0 hI (by omega) hrow hds
     refine⟨_,ht, ?_⟩
     cases hu with
     |ptr _ _ _ _ b2 e2 c2 hr2 hp2=>
      rw[hp] at hp2
      simp only[Option.some.injEq,Prod.mk.injEq] at hp2
      obtain⟨rfl,rfl,rfl⟩:=hp2
      exact .ptr _ _ _ _ b e c (by rw[Cg];omega) (Jk ..)
    ·simp at h
   ·simp at h
 ·simp at h
theorem Bhx {n:Nat} {base:Hp} {v:V} {r:V×Hp×Hp} (h:Wo n H base v=some r):r.1.sto=true:=by
 unfold Wo at h
 split at h
 ·simp only[Option.some.injEq] at h;subst h;rfl
 ·simp only[Option.some.injEq] at h;subst h;rfl
 ·split at h
  ·simp only[Option.some.injEq] at h;subst h;rfl
  ·split at h
   ·split at h
    ·simp only[Option.some.injEq] at h;subst h;rfl
    ·simp at h
   ·simp at h
 ·split at h
  ·simp only[Option.some.injEq] at h;subst h;rfl
  ·split at h
   ·split at h
    ·simp only[Option.some.injEq] at h;subst h;rfl
    ·simp at h
   ·simp at h
 ·simp at h
structure OwnOk (w:World) (pl0:Pl) (H0:Hp) (n:Nat) (Bd:Nat→Prop) (f:Hp→Hp→V→Option (V×Hp×Hp)):Prop where
 ok: ∀ {H plb base v v' H' base' u},OwnInv w pl0 H0 n H plb Bd base→f H base v=some (v',H',base')→RV w (Bl pl0 H0) pl0 (Be H0) v u→∃plb',OwnTo w pl0 H0 n plb Bd base H' plb' base'∧RV w (Bl pl0 H0) plb' (Be base') v' u
 sto: ∀ {H base v r},f H base v=some r→r.1.sto=true
 known: ∀ {H base v r},f H base v=some r→v.ok=true
theorem Bkw {pl0:Pl} {H0:Hp} {n:Nat} {B0:Nat→Prop} (hH0:HR w pl0 B0 H0):OwnOk w pl0 H0 n Bd (Wo n):=
 ⟨fun hI h hu=>Bnh hH0 hI h hu,fun h=>Bhx h,fun {H base v r} h=>by cases v<;>first|rfl| (simp[Wo] at h)⟩
theorem OwnTo.refl {pl0:Pl} {H0:Hp} {n:Nat} {plb:Pl} {base:Hp} (h:OwnInv w pl0 H0 n H plb Bd base):OwnTo w pl0 H0 n plb Bd base H plb base:=⟨h,PlExt.refl _ _,Nat.le_refl _⟩
theorem OwnTo.trans {pl0:Pl} {H0:Hp} {n:Nat} {plb:Pl} {base H1 base1 H2 base2:Hp} {plb1 plb2:Pl} (h:OwnTo w pl0 H0 n plb Bd base H1 plb1 base1) (k:OwnTo w pl0 H0 n plb1 Bd base1 H2 plb2 base2):OwnTo w pl0 H0 n plb Bd base H2 plb2 base2:=
 ⟨k.inv,h.ple.trans (k.ple.le h.le),Nat.le_trans h.le k.le⟩
theorem Bhy {pl0:Pl} {H0:Hp} {n:Nat} {f:Hp→Hp→V→Option (V×Hp×Hp)} (hf:OwnOk w pl0 H0 n Bd f): ∀ (vs:List V) (us:List Value) (H:Hp) (plb:Pl) (base:Hp) (ws:List V) (H' base':Hp),OwnInv w pl0 H0 n H plb Bd base→Bb9 f H base vs=some (ws,H',base')→us.length=vs.length→
  (∀i,i<vs.length→RV w (Bl pl0 H0) pl0 (Be H0) (vs.getD i .any) (us.getD i undef))→
  ∃plb',OwnTo w pl0 H0 n plb Bd base H' plb' base'∧ws.length=vs.length∧∀i,i<ws.length→RV w (Bl pl0 H0) plb' (Be base') (ws.getD i .any) (us.getD i undef)
 | [],us,H,plb,base,ws,H',base',hI,h,hl,hu=>by
  simp only[Bb9,Option.some.injEq,Prod.mk.injEq] at h
  obtain⟨rfl,rfl,rfl⟩:=h
  exact⟨plb, .refl hI,rfl,fun i hi=>by simp at hi⟩
 |v::vs,[],H,plb,base,ws,H',base',hI,h,hl,hu=>by simp at hl
 |v::vs,u::us,H,plb,base,ws,H',base',hI,h,hl,hu=>by
  simp only[Bb9] at h
  split at h
  ·rename_i x H1 base1 h1
   obtain⟨plb1,t1,r1⟩:=hf.ok hI h1 (hu 0 (by simp))
   split at h
   ·rename_i xs H2 base2 h2
    simp only[Option.some.injEq,Prod.mk.injEq] at h
    obtain⟨rfl,rfl,rfl⟩:=h
    obtain⟨plb2,t2,l2,r2⟩:=Bhy hf vs us H1 plb1 base1 xs H2 base2 t1.inv h2 (by simpa using hl) (fun i hi=>hu (i+1) (by simpa using hi))
    refine⟨plb2,t1.trans t2,by simp[l2],fun i hi=> ?_⟩
    cases i with
    |zero=>exact r1.mono (Ext.refl _ _) t2.ple t2.le
    |succ i=>exact r2 i (by simpa using hi)
   ·simp at h
  ·simp at h
theorem Bo0 (cs:List V): (Ny cs).sto=true:=by
 unfold Ny
 split<;>rfl
theorem Bsn {pl0:Pl} {H0:Hp} {n:Nat} {f:Hp→Hp→V→Option (V×Hp×Hp)} (hf:OwnOk w pl0 H0 n Bd f):OwnOk w pl0 H0 n Bd (Zq f):=by
 refine⟨fun {H plb base v v' H' base' u} hI h hu=> ?_,fun {H base v r} h=> ?_,fun {H base v r} h=> ?_⟩
 ·unfold Zq at h
  split at h
  ·rename_i cs
   split at h
   ·rename_i ys H1 base1 h1
    simp only[Option.some.injEq,Prod.mk.injEq] at h
    obtain⟨rfl,rfl,rfl⟩:=h
    cases hu with
    |agg _ us hl ho hr=>
     obtain⟨plb',t,l,r⟩:=Bhy hf cs us.toList H plb base ys _ _ hI h1 (by simpa using hl) (fun i hi=>by
      have:=hr i hi
      simpa[List.getD_eq_getElem?_getD,Array.getD_eq_getD_getElem?] using this)
     refine⟨plb',t,RCs.mkAgg ⟨by omega,fun i hi=> ?_,fun i hi=>ho i (by omega)⟩⟩
     have:=r i hi
     simpa[List.getD_eq_getElem?_getD,Array.getD_eq_getD_getElem?] using this
   ·simp at h
  ·exact hf.ok hI h hu
 ·unfold Zq at h
  split at h
  ·split at h
   ·simp only[Option.some.injEq] at h;subst h;exact Bo0 _
   ·simp at h
  ·exact hf.sto h
 ·unfold Zq at h
  split at h
  ·rfl
  ·exact hf.known h
theorem Bca {pl0:Pl} {H0:Hp} {n:Nat} {f:Hp→Hp→V→Option (V×Hp×Hp)} (hf:OwnOk w pl0 H0 n Bd f): ∀ (vs:List V) (us:List Value) (H:Hp) (plb:Pl) (base:Hp) (ws:List V) (H' base':Hp),OwnInv w pl0 H0 n H plb Bd base→Zr f H base vs=some (ws,H',base')→us.length=vs.length→
  (∀i,i<vs.length→(vs.getD i .any).ok=true→RV w (Bl pl0 H0) pl0 (Be H0) (vs.getD i .any) (us.getD i undef))→
  ∃plb',OwnTo w pl0 H0 n plb Bd base H' plb' base'∧ws.length=vs.length∧∀i,i<ws.length→(ws.getD i .any).sto=true∧RV w (Bl pl0 H0) plb' (Be base') (ws.getD i .any) (us.getD i undef)
 | [],us,H,plb,base,ws,H',base',hI,h,hl,hu=>by
  simp only[Zr,Option.some.injEq,Prod.mk.injEq] at h
  obtain⟨rfl,rfl,rfl⟩:=h
  exact⟨plb, .refl hI,rfl,fun i hi=>by simp at hi⟩
 |v::vs,[],H,plb,base,ws,H',base',hI,h,hl,hu=>by simp at hl
 |v::vs,u::us,H,plb,base,ws,H',base',hI,h,hl,hu=>by
  simp only[Zr] at h
  split at h
  ·rename_i x H1 base1 h1
   have hE:=Bsn hf
   obtain⟨plb1,t1,r1⟩:=hE.ok hI h1 (hu 0 (by simp) (hE.known h1))
   have s1:=hE.sto h1
   split at h
   ·rename_i xs H2 base2 h2
    simp only[Option.some.injEq,Prod.mk.injEq] at h
    obtain⟨rfl,rfl,rfl⟩:=h
    obtain⟨plb2,t2,l2,r2⟩:=Bca hf vs us H1 plb1 base1 xs H2 base2 t1.inv h2 (by simpa using hl) (fun i hi=>hu (i+1) (by simpa using hi))
    refine⟨plb2,t1.trans t2,by simp[l2],fun i hi=> ?_⟩
    cases i with
    |zero=>exact⟨s1,r1.mono (Ext.refl _ _) t2.ple t2.le⟩
    |succ i=>exact r2 i (by simpa using hi)
   ·simp at h
  ·simp at h
theorem Bkc {O:Jw} {pl:Pl} {n e:Nat} {x:V} {us:Array Value} (hrc:RCs w O pl n x.cells us) (he:x.cells.length=e): ∃u,RV w O pl n x u∧u.cells=us:=by
 by_cases hag:x.isAgg=true
 ·refine⟨.agg us, ?_,rfl⟩
  cases x<;>simp[V.isAgg] at hag
  ·rename_i y;cases y<;>simp[V.isAgg] at hag
   rename_i cs
   refine .d _ _ (.agg cs us (by simpa[V.cells] using hrc.size) (fun l hl=>hrc.one l (by simpa[V.cells] using hl)) fun l hl=> ?_)
   have:=hrc.rel l (by simpa[V.cells] using hl)
   simp only[V.cells] at this
   rw[Dk cs l hl] at this
   exact this.dd
  ·rename_i cs
   exact .agg cs us hrc.size hrc.one hrc.rel
 ·have hag':x.isAgg=false:=by simpa using hag
  have hc1:=Ro hag'
  have hrv:=hrc.rel 0 (by rw[hc1];simp)
  have hone:=hrc.one 0 (by rw[hc1];simp)
  have hsz:=hrc.size
  rw[hc1] at hrv hsz
  simp only[List.getD_cons_zero] at hrv
  refine⟨us.getD 0 undef,hrv, ?_⟩
  have hus: (us.getD 0 undef).cells= #[us.getD 0 undef]:=by
   generalize us.getD 0 undef=q at hone
   cases q<;>first|rfl|simp[Value.oneCell'] at hone
  rw[hus]
  apply Array.ext
  ·simpa using hsz.symm
  ·intro i h1 h2
   have:i=0:=by simpa using h1
   subst this
   simp[Array.getD_eq_getD_getElem?,h2]
theorem Bbt {pl0:Pl} {H0:Hp} {n:Nat} {B0:Nat→Prop} (hH0:HR w pl0 B0 H0) {f:Hp→Hp→V→Option (V×Hp×Hp)} (hf:OwnOk w pl0 H0 n Bd f):OwnOk w pl0 H0 n Bd (U0 n f):=by
 refine⟨fun {H plb base v v' H' base' u} hI h hu=> ?_,fun {H base v r} h=> ?_,fun {H base v r} h=> ?_⟩
 ·unfold U0 at h
  split at h
  ·rename_i r0 h1
   simp only[Option.some.injEq] at h
   subst h
   exact Bnh hH0 hI h1 hu
  ·split at h
   ·rename_i r g k hno
    split at h
    ·simp at h
    ·rename_i hge
     split at h
     ·rename_i e xs hrow
      split at h
      ·rename_i ys H1 base1 hes
       split at h
       ·rename_i p hrow1
        simp only[Option.some.injEq,Prod.mk.injEq] at h
        obtain⟨rfl,rfl,rfl⟩:=h
        have hgr:=J6 hrow
        rcases hI.same r _ hgr with hd|hg0
        ·simp at hd
        obtain⟨b,c,arr,ty,fr,hp,hh,hsa,hfz,hxc,he,hr,h1,_⟩:=Jo hH0 (show Cz H0 r g=some (e,xs) by simp[Cz,hg0])
        have hel: ∀i,i<xs.length→∃u,RV w (Bl pl0 H0) pl0 (Be H0) (xs.getD i .any) u∧u.cells.size=e∧∀j,j<e→u.cells.getD j undef=arr.getD (i*e+j) undef:=by
         intro i hi
         let us:Array Value:=((List.range e).map fun l=>arr.getD (i*e+l) undef).toArray
         have husg: ∀l,l<e→us.getD l undef=arr.getD (i*e+l) undef:=fun l hl=>by
          have hsz:l<us.size:=by simp[us,hl]
          rw[Array.getD_eq_getD_getElem?,Array.getElem?_eq_getElem hsz]
          simp[us]
         have hce:=he i hi
         have hrc:RCs w (Bl pl0 H0) pl0 (Be H0) (xs.getD i .any).cells us:=⟨by rw[hce];simp[us],fun l hl=>by rw[husg l (by omega)];exact hr _ _ hi (by omega),fun l hl=>by rw[husg l (by omega)];exact h1 _ _ hi (by omega)⟩
         obtain⟨u,hu1,hu2⟩:=Bkc hrc hce
         exact⟨u,hu1,by rw[hu2];simp[us],fun j hj=>by rw[hu2];exact husg j hj⟩
        let uv:List Value:=(List.range xs.length).map fun i=>if h:i<xs.length then(hel i h).choose else undef
        have huv: ∀i,i<xs.length→∃u,uv.getD i undef=u∧RV w (Bl pl0 H0) pl0 (Be H0) (xs.getD i .any) u∧u.cells.size=e∧∀j,j<e→u.cells.getD j undef=arr.getD (i*e+j) undef:=by
         intro i hi
         refine⟨(hel i hi).choose, ?_,(hel i hi).choose_spec⟩
         simp[uv,List.getD_eq_getElem?_getD,hi]
        obtain⟨plb1,t1,l1,r1⟩:=Bca hf xs uv H plb base ys H1 base1 hI hes (by simp[uv]) (fun i hi _=>by
         obtain⟨u,e1,e2,_⟩:=huv i hi
         rw[e1];exact e2)
        have hI1:=t1.inv
        obtain⟨e',xs'⟩:=p
        have hgr1:=J6 hrow1
        rcases hI1.same r _ hgr1 with hd|hg1
        ·simp at hd
        rw[hg0] at hg1
        simp only[Option.some.injEq,Obj.row.injEq,true_and] at hg1
        obtain⟨rfl,rfl⟩:=hg1
        have t2:=Bh0 hH0 hI1 (ys:=ys) (by omega) hgr1 hg0 hp hh hsa hfz (by omega) (fun i hi=>by
          obtain⟨u,e1,e2,e3,e4⟩:=huv i (by omega)
          obtain⟨s1,s2⟩:=r1 i hi
          have:=(s2.cells s1).size
          rw[e1] at this
          omega) (fun i j hi hj=>by
          obtain⟨u,e1,e2,e3,e4⟩:=huv i (by omega)
          obtain⟨s1,s2⟩:=r1 i hi
          have hc:=s2.cells s1
          rw[e1] at hc
          have:=hc.rel j (by have:=hc.size;omega)
          rwa[e4 j hj] at this) (fun i j hi hj=>h1 i j (by omega) hj)
        refine⟨_,t1.trans t2, ?_⟩
        cases hu with
        |slc _ _ _ _ b2 e2 c2 hr2 hp2 hk=>
         rw[hp] at hp2
         simp only[Option.some.injEq,Prod.mk.injEq] at hp2
         obtain⟨rfl,rfl,rfl⟩:=hp2
         exact .slc _ _ _ _ b e c (by rw[Cg];omega) (Jk ..) hk
        |slc0 _ _ _ A cap hi _=>omega
       ·simp at h
      ·simp at h
     ·simp at h
   ·simp at h
 ·unfold U0 at h
  split at h
  ·rename_i r0 h1
   simp only[Option.some.injEq] at h
   subst h
   exact Bhx h1
  ·split at h
   ·split at h
    ·simp at h
    ·split at h
     ·split at h
      ·split at h
       ·simp only[Option.some.injEq] at h;subst h;rfl
       ·simp at h
      ·simp at h
     ·simp at h
   ·simp at h
 ·cases v<;>first|rfl| (simp[U0,Wo] at h)
theorem Bw4 {pl0:Pl} {H0:Hp} {n:Nat} {B0:Nat→Prop} (hH0:HR w pl0 B0 H0) (vs:List V) (us:List Value) (H:Hp) (plb:Pl) (base:Hp) (ws:List V) (H' base':Hp) (hI:OwnInv w pl0 H0 n H plb Bd base) (h:B0r n H base vs=some (ws,H',base')) (hl:us.length=vs.length)
  (hu: ∀i,i<vs.length→(vs.getD i .any).ok=true→RV w (Bl pl0 H0) pl0 (Be H0) (vs.getD i .any) (us.getD i undef)):
  ∃plb',OwnTo w pl0 H0 n plb Bd base H' plb' base'∧ws.length=vs.length∧∀i,i<ws.length→RV w (Bl pl0 H0) plb' (Be base') (ws.getD i .any) (us.getD i undef):=by
 obtain⟨plb',t,l,r⟩:=Bca (Bbt hH0 (Bbt hH0 (Bbt hH0 (Bkw hH0)))) vs us H plb base ws H' base' hI h hl hu
 exact⟨plb',t,l,fun i hi=> (r i hi).2⟩
theorem OwnInv.start {pl0:Pl} {H0:Hp} {n:Nat} {B0:Nat→Prop} (hH0:HR w pl0 B0 H0) (hn:B0 n) (hB: ∀m,Bd m→B0 m∧m≤n):OwnInv w pl0 H0 n H0 pl0 Bd (C8 H0 n):=by
 have hle:=hH0.le n hn
 have hbk: ∀r' b,Gv pl0 (C8 H0 n) r'=some b→r'<n∧Gv pl0 H0 r'=some b:=by
  intro r' b hb
  obtain⟨o,ho⟩:=Qm hb
  obtain⟨hlt,ho'⟩:=Gw ho
  refine⟨hlt, ?_⟩
  unfold Gv at hb⊢
  rwa[Rw hlt] at hb
 refine⟨fun r o ho=> ?_,fun r1 r2 b k1 k2=>hH0.inj r1 r2 b (hbk _ _ k1).2 (hbk _ _ k2).2,fun m hm r o hr ho=> ?_,fun m hm=> (hB m hm).2,by rw[Gf hle];omega,PlExt.refl _ _,fun r o ho=> .inr ho,fun b ⟨r,hr⟩=> ⟨r,(hbk _ _ hr).2⟩,fun r b hr hb ⟨r',hr'⟩=> ?_⟩
 ·obtain⟨hlt,ho'⟩:=Gw ho
  rw[Gf hle]
  exact hH0.bd n hn r o hlt ho'
 ·obtain⟨_,ho'⟩:=Gw ho
  exact hH0.bd m (hB m hm).1 r o hr ho'
 ·obtain⟨hlt,h2⟩:=hbk _ _ hr'
  have:=hH0.inj r r' b hb h2
  omega
end
theorem Zv {f:St→Option (Out×St)} {lv:List Nat} : ∀ {n:Nat} {st:St} {r:Out×St},Jm f lv n st=some r→Jm f lv (n+1) st=some r
 |0,_,_,h=>by simp[Jm] at h
 |n+1,st,r,h=>by
  rw[Jm] at h⊢
  cases hf:f ⟨st.env.keep lv,st.hp⟩ with
  |none=>rw[hf] at h;simp at h
  |some p=>
   obtain⟨o,s⟩:=p
   rw[hf] at h
   cases o with
   |normal=>exact Zv h
   |exit id=>exact h
   |ret=>exact h
theorem Beu {f:St→Option (Out×St)} {lv:List Nat} {n m:Nat} (hm:n≤m) {st:St} {r:Out×St} (h:Jm f lv n st=some r):Jm f lv m st=some r:=by
 induction hm with
 |refl=>exact h
 |step _ ih=>exact Zv ih
open Classical in
noncomputable def Bg (f:St→Option (Out×St)) (lv:List Nat) (st:St):Option (Out×St):=
 if h: ∃r,∃n,Jm f lv n st=some r then some h.choose else none
theorem Jz {f:St→Option (Out×St)} {lv:List Nat} {st:St} {r:Out×St} :Bg f lv st=some r↔∃n,Jm f lv n st=some r:=by
 unfold Bg
 constructor
 ·intro h
  split at h
  ·rename_i hx
   simp only[Option.some.injEq] at h
   rw[←h];exact hx.choose_spec
  ·simp at h
 ·rintro⟨n,hn⟩
  have hx: ∃r,∃n,Jm f lv n st=some r:=⟨r,n,hn⟩
  rw[dif_pos hx]
  obtain⟨m,hm⟩:=hx.choose_spec
  have h1:=Beu (Nat.le_max_left n m) hn
  have h2:=Beu (Nat.le_max_right n m) hm
  rw[h1] at h2
  exact h2.symm
theorem Bt (f:St→Option (Out×St)) (lv:List Nat) (st:St):Bg f lv st=(match f ⟨st.env.keep lv,st.hp⟩ with
  |some (.normal,st')=>Bg f lv st'
  |r=>r):=by
 cases hf:f ⟨st.env.keep lv,st.hp⟩ with
 |none=>
  cases he:Bg f lv st with
  |none=>rfl
  |some r=>
   obtain⟨n,hn⟩:=Jz.1 he
   cases n<;>simp[Jm,hf] at hn
 |some p=>
  obtain⟨o,s⟩:=p
  cases o with
  |normal=>
   simp only
   cases he:Bg f lv s with
   |none=>
    cases he':Bg f lv st with
    |none=>rfl
    |some r=>
     obtain⟨n,hn⟩:=Jz.1 he'
     cases n with
     |zero=>simp[Jm] at hn
     |succ n=>
      simp only[Jm,hf] at hn
      have:=Jz.2 ⟨n,hn⟩
      rw[he] at this
      simp at this
   |some r=>
    obtain⟨n,hn⟩:=Jz.1 he
    exact Jz.2 ⟨n+1,by simp only[Jm,hf];exact hn⟩
  |exit id=>exact Jz.2 ⟨1,by simp only[Jm,hf]⟩
  |ret=>exact Jz.2 ⟨1,by simp only[Jm,hf]⟩
theorem Bdq:B2a Bg:=fun _ _ _ _ h=>Jz.1 h
def CLe (cl cl':Fv):Prop:=∀k args H r,cl k args H=some r→cl' k args H=some r
section
variable {cl cl':Fv} (hle:CLe cl cl') {G:G6} {n0:Bn}
theorem Bdg {k:Nat} {args:List V} {v:V} (hle:CLe cl cl') (h:Bc cl k args=some v):Bc cl' k args=some v:=
 Bb fun H=>hle _ _ _ _ (Dx h H)
theorem Bcf {k:Nat} {args:List V} {v:V} (hle:CLe cl cl') (h:Gl cl k args=some v):Gl cl' k args=some v:=
 Jt fun H=>by
  obtain⟨v1,H2,h1,h2,h3⟩:=Py h H
  exact⟨v1,H2,hle _ _ _ _ h1,h2,h3⟩
theorem Wp {k:Nat} {args:List V} {v:V} (hle:CLe cl cl') (hn:Bc cl k args=none) (h:Gl cl k args=some v):Bc cl' k args=none:=by
 cases hp:Bc cl' k args with
 |none=>rfl
 |some u=>
  exfalso
  have:Bc cl k args=some u:=Bb fun H=>by
   obtain⟨v1,H2,h1,_,_⟩:=Py h H
   have h2:=hle _ _ _ _ h1
   rw[Dx hp H] at h2
   rw[h1,←h2]
  rw[hn] at this
  simp at this
theorem Bdr (hle:CLe cl cl') {env:Env} {H:Hp} {op:AOp} {r:V×Hp} (h:Cf cl G n0 env H op=some r):Cf cl' G n0 env H op=some r:=by
 cases op<;>try exact h
 case call f ags fr=>
  simp only[Cf] at h⊢
  split at h
  ·split at h
   ·split at h
    ·rename_i hr
     rw[hle _ _ _ _ hr]
     exact h
    ·simp at h
   ·simp at h
  ·simp at h
 case pcall f ags=>
  simp only[Cf] at h⊢
  split at h
  ·split at h
   ·split at h
    ·rename_i hr
     rw[Bdg hle hr]
     exact h
    ·rename_i hn
     split at h
     ·rename_i hr
      rw[Wp hle hn hr,Bcf hle hr]
      exact h
     ·simp at h
   ·simp at h
  ·simp at h
theorem Sw (hle:CLe cl cl') {o:AOper} {st st':St} (h:F5 cl G n0 o st=some st'):F5 cl' G n0 o st=some st':=by
 obtain⟨v,H,ha,rfl⟩:=Jg h
 refine Q4 ?_
 unfold J5 at ha⊢
 split at ha
 ·exact Bdr hle ha
 ·split at ha
  ·rename_i want _ _ b _
   cases hb: (b==want)<;>simp only[hb,cond_true,cond_false] at ha⊢
   ·exact ha
   ·exact Bdr hle ha
  ·exact ha
  ·simp at ha
theorem Ba8 (hle:CLe cl cl'): ∀ (os:List AOper) {st st':St},Qb cl G n0 os st=some st'→Qb cl' G n0 os st=some st'
 | [],_,_,h=>h
 |o::os,st,st',h=>by
  simp only[Qb] at h⊢
  split at h
  ·rename_i s1 h1
   rw[Sw hle h1]
   exact Ba8 hle os h
  ·simp at h
theorem Ba9 (hle:CLe cl cl'): ∀ (L:List (Bool×AOper)) {st st':St},evX cl G n0 L st=some st'→evX cl' G n0 L st=some st'
 | [],_,_,h=>h
 | (true,o)::L,st,st',h=>by
  simp only[evX] at h⊢
  split at h
  ·rename_i s1 h1
   rw[Sw hle h1]
   exact Ba9 hle L h
  ·simp at h
 | (false,o)::L,st,st',h=>by
  simp only[evX] at h⊢
  split at h
  ·rename_i s1 h1
   rw[Sw hle h1]
   split at h
   ·rename_i ha
    simp only[if_pos ha]
    exact Ba9 hle L h
   ·simp at h
  ·simp at h
theorem Zu {f f':St→Option (Out×St)} (hf: ∀st r,f st=some r→f' st=some r) {lv:List Nat} : ∀ {n:Nat} {st:St} {r:Out×St},Jm f lv n st=some r→Jm f' lv n st=some r
 |0,_,_,h=>by simp[Jm] at h
 |n+1,st,r,h=>by
  rw[Jm] at h⊢
  cases hp:f ⟨st.env.keep lv,st.hp⟩ with
  |none=>rw[hp] at h;simp at h
  |some p=>
   obtain⟨o,s⟩:=p
   rw[hp] at h
   rw[hf _ _ hp]
   cases o with
   |normal=>exact Zu hf h
   |exit id=>exact h
   |ret=>exact h
theorem Bg9 (hle:CLe cl cl'): ∀ (ac:ACode) {n0:Bn} {st:St} {r:Out×St},Bp cl G n0 Bg ac st=some r→Bp cl' G n0 Bg ac st=some r:=by
 intro ac
 induction ac with
 |skip=>intro n0 st r h;exact h
 |reg d os=>
  intro n0 st r h
  simp only[Bp] at h⊢
  split at h
  ·rename_i s1 h1
   rw[Ba8 hle os h1];exact h
  ·simp at h
 |regx L=>
  intro n0 st r h
  simp only[Bp] at h⊢
  split at h
  ·rename_i s1 h1
   rw[Ba9 hle L h1];exact h
  ·simp at h
 |seq x lv y ihx ihy=>
  intro n0 st r h
  simp only[Bp] at h⊢
  cases hx:Bp cl G n0 Bg x st with
  |none=>rw[hx] at h;simp at h
  |some p=>
   obtain⟨o,s⟩:=p
   rw[hx] at h
   rw[ihx hx]
   cases o with
   |normal=>exact ihy h
   |exit id=>exact h
   |ret=>exact h
 |cond c x y ihx ihy=>
  intro n0 st r h
  simp only[Bp] at h⊢
  split at h
  ·rename_i t ht
   cases t with
   |true=>exact ihx h
   |false=>exact ihy h
  ·simp at h
 |block id x ih=>
  intro n0 st r h
  simp only[Bp] at h⊢
  cases hx:Bp cl G n0 Bg x st with
  |none=>rw[hx] at h;simp at h
  |some p=>
   rw[hx] at h
   rw[ih hx]
   exact h
 |loop lv x ih=>
  intro n0 st r h
  simp only[Bp] at h⊢
  obtain⟨n,hn⟩:=Jz.1 h
  exact Jz.2 ⟨n,Zu (fun st r hh=>ih hh) hn⟩
 |scope x ih=>intro n0 st r h;exact ih h
 |trim lv x ih=>
  intro n0 st r h
  simp only[Bp] at h⊢
  cases hx:Bp cl G ⟨n0.n,Be st.hp::n0.ts⟩ Bg x st with
  |none=>rw[hx] at h;simp at h
  |some p=>
   obtain⟨o,s⟩:=p
   rw[hx] at h
   rw[ih hx]
   exact h
 |frz ts x ih=>
  intro n0 st r h
  simp only[Bp] at h⊢
  split at h
  ·rename_i hf
   exact ih h
  ·simp at h
 |exit id=>intro n0 st r h;exact h
 |ret=>intro n0 st r h;exact h
theorem Bg8 (hle:CLe cl cl') {fn:AFunc} {args:List V} {H:Hp} {r:V×Hp} (h:Ct cl G Bg fn args H=some r):Ct cl' G Bg fn args H=some r:=by
 unfold Ct at h⊢
 split at h
 ·rename_i hl
  rw[if_pos hl]
  cases hx:Bp cl G (Be H) Bg fn.body ⟨Qz 0 args,H⟩ with
  |none=>rw[hx] at h;simp at h
  |some p=>rw[hx] at h;rw[Bg9 hle _ hx];exact h
 ·simp at h
end
noncomputable def Qo (R:Prg) (cl:Fv):Fv:=fun f args H=>
 match R.prim f with
 |some p=>p args H
 |none=>
  match R.fns f with
  |some fn=>Ct cl R.glob Bg fn args H
  |none=>none
theorem Zk {R:Prg} {cl cl':Fv} (hle:CLe cl cl'):CLe (Qo R cl) (Qo R cl'):=by
 intro k args H r h
 unfold Qo at h⊢
 split at h
 ·exact h
 ·split at h
  ·exact Bg8 hle h
  ·simp at h
abbrev Bmn:=Nat→List V→Hp→V×Hp→Prop
def Bdm (cl:Fv) (X:Bmn):Prop:=∀k args H r,cl k args H=some r→X k args H r
def Bzu (R:Prg) (X:Bmn):Prop:=∀cl,Bdm cl X→Bdm (Qo R cl) X
def Pk (R:Prg):Bmn:=fun k args H r=> ∀X,Bzu R X→X k args H r
theorem Wl (R:Prg):Bzu R (Pk R):=fun cl hcl k args H r h X hX=>hX cl (fun k args H r h=>hcl k args H r h X hX) k args H r h
theorem Bbu {R:Prg} {X:Bmn} (hX:Bzu R X) {k:Nat} {args:List V} {H:Hp} {r:V×Hp} (h:Pk R k args H r):X k args H r:=h X hX
theorem Bko {R:Prg} {k:Nat} {args:List V} {H:Hp} {r:V×Hp} (h:Pk R k args H r): ∃cl,Bdm cl (Pk R)∧Qo R cl k args H=some r:=by
 refine Bbu (X:=fun k args H r=>Pk R k args H r∧∃cl,Bdm cl (Pk R)∧Qo R cl k args H=some r) ?_ h|>.2
 intro cl hcl k args H r hr
 have hu:Bdm cl (Pk R):=fun k args H r h=> (hcl k args H r h).1
 exact⟨Wl R cl hu k args H r hr,cl,hu,hr⟩
open Classical in
noncomputable def Bvx (c d:Fv):Fv:=fun k args H=>match c k args H with|some r=>some r|none=>d k args H
theorem Boz {R:Prg} {k:Nat} {args:List V} {H:Hp} {r:V×Hp} (h:Pk R k args H r): ∀r',Pk R k args H r'→r'=r:=by
 refine(Bbu (X:=fun k args H r=>Pk R k args H r∧∀r',Pk R k args H r'→r'=r) ?_ h).2
 intro cl hcl k args H r hr
 have hu:Bdm cl (Pk R):=fun k args H r h=> (hcl k args H r h).1
 refine⟨Wl R cl hu k args H r hr,fun r' hr'=> ?_⟩
 obtain⟨cl',hu',hs'⟩:=Bko hr'
 have h1:CLe cl (Bvx cl cl'):=fun k args H r h=>by simp only[Bvx,h]
 have h2:CLe cl' (Bvx cl cl'):=fun k args H r h=>by
  simp only[Bvx]
  cases hc:cl k args H with
  |none=>exact h
  |some r2=>
   have:=(hcl k args H r2 hc).2 r (hu' k args H r h)
   simp only;rw[this]
 have e1:=Zk h1 k args H r hr
 have e2:=Zk h2 k args H r' hs'
 rw[e1] at e2
 exact(Option.some.inj e2).symm
open Classical in
noncomputable def ev (R:Prg):Fv:=fun k args H=>if h: ∃r,Pk R k args H r then some h.choose else none
theorem Bkh {R:Prg} {k:Nat} {args:List V} {H:Hp} {r:V×Hp} :ev R k args H=some r↔Pk R k args H r:=by
 unfold ev
 constructor
 ·intro h
  split at h
  ·rename_i hx
   simp only[Option.some.injEq] at h
   rw[←h];exact hx.choose_spec
  ·simp at h
 ·intro h
  have hx: ∃r,Pk R k args H r:=⟨r,h⟩
  rw[dif_pos hx,Boz h _ hx.choose_spec]
theorem By5 {R:Prg} {k:Nat} {args:List V} {H:Hp} {r:V×Hp} (h:Qo R (ev R) k args H=some r):ev R k args H=some r:=
 Bkh.2 (Wl R (ev R) (fun _ _ _ _ h=>Bkh.1 h) k args H r h)
theorem Bh {R:Prg} {k:Nat} {fn:AFunc} (hp:R.prim k=none) (hf:R.fns k=some fn) {args:List V} {H:Hp} {r:V×Hp} (h:Ct (ev R) R.glob Bg fn args H=some r):ev R k args H=some r:=by
 refine By5 ?_
 unfold Qo
 rw[hp,hf]
 exact h
theorem Bwp {R:Prg} {k:Nat} {p:List V→Hp→Option (V×Hp)} (hp:R.prim k=some p) {args:List V} {H:Hp} {r:V×Hp} (h:p args H=some r):ev R k args H=some r:=by
 refine By5 ?_
 unfold Qo
 rw[hp]
 exact h
def N7 (P:Program) (G:G6) (k:Nat) (args:List V) (H:Hp) (r:V×Hp):Prop:=FnOk P k∧
  ∀ (w:World) (pl:Pl) (Bd:Nat→Prop) (us:Array Value),HR w pl Bd H→GR G w (Bl pl H)→RVs w (Bl pl H) pl (Be H) args us→
   Calls P k us w fun e w'=> ∃u pl',e= .returned u∧Fin w pl Bd H r.1 r.2 u w' pl'
def Bj (P:Program) (fn:Func) (af:AFunc):Bool:=
 (match fn.body with|some c=>Gc P fn.ntmps c af.body|none=>false) &&Tt P af.res fn.results.toList&& !(fn.name== "runtime.NumGoroutine")
structure PrgOk (P:Program) (R:Prg):Prop where
 mixed:P.follows .mixedOrders=true
 fns: ∀k af,R.fns k=some af→∃fn,P.funcs[k]? =some fn∧Bj P fn af=true
 prims: ∀k p,R.prim k=some p→∀args H r,p args H=some r→N7 P R.glob k args H r
theorem Bbn: ∀ (args:List V) (k t:Nat),(Qz k args).get t=if k≤t∧t<k+args.length then args.getD (t - k) .any else .any
 | [],k,t=>by
  have: ¬ (k≤t∧t<k+0):=by omega
  simp[Qz,Env.get]
 |v::args,k,t=>by
  simp only[Qz,Env.get]
  cases hb:Nat.beq k t with
  |true=>
   have:=Nat.eq_of_beq_eq_true hb
   subst this
   simp
  |false=>
   have hne:k≠t:=fun he=>by subst he;simp at hb
   rw[cond_false,Bbn args (k+1) t]
   by_cases h:k+1≤t∧t<k+1+args.length
   ·rw[if_pos h,if_pos ⟨by omega,by simp;omega⟩]
    have:t - k=(t - (k+1))+1:=by omega
    rw[this];rfl
   ·rw[if_neg h,if_neg (by simp;omega)]
theorem Bxf {w:World} {O:Jw} {pl:Pl} {n:Nat} {args:List V} {us:Array Value} (h:RVs w O pl n args us) (m:Nat):RE w O pl n (Qz 0 args) { tmps:=us++Array.replicate m undef,defers:=[] } :=by
 intro t ht
 rw[Bbn] at ht⊢
 by_cases hl:0≤t∧t<0+args.length
 ·rw[if_pos hl] at ht⊢
  have h1:=h.1
  have htl:t<args.length:=by omega
  have e: (us++Array.replicate m undef).getD t undef=us.getD t undef:=by
   rw[Array.getD_eq_getD_getElem?,Array.getD_eq_getD_getElem?,Array.getElem?_append_left (by omega)]
  simp only[Nat.sub_zero]
  rw[e]
  exact h.2 t htl
 ·rw[if_neg hl] at ht
  simp[V.ok] at ht
theorem Bkq {w:World} {pl:Pl} {Bd:Nat→Prop} {H:Hp} (hH:HR w pl Bd H) {n:Nat} (hn:Bd n) {vs ws:List V} (h:Gs (fzV n H) vs=some ws) {us:List Value} (hu: ∀i,i<vs.length→(vs.getD i .any).ok=true→RV w (Bl pl H) pl (Be H) (vs.getD i .any) (us.getD i undef)):
  ws.length=vs.length∧∀i,i<ws.length→RV w (Bl pl (C8 H n)) pl n (ws.getD i .any) (us.getD i undef):=by
 obtain⟨h1,h2⟩:=Gr (d:=V.any) (d':=V.any) h
 refine⟨h1,fun i hi=> ?_⟩
 have:=h2 i (by omega)
 exact Bkj hH hn this (hu i (by omega) (Bot this))
theorem Bj1 {P:Program} {R:Prg} (hR:PrgOk P R) {cl:Fv} (hcl:Gj P R.glob cl) {k:Nat} {af:AFunc} (hf:R.fns k=some af) {args:List V} {H:Hp} {r:V×Hp} (h:Ct cl R.glob Bg af args H=some r):N7 P R.glob k args H r:=by
 obtain⟨fn,hfn,hck⟩:=hR.fns k af hf
 unfold Bj at hck
 rw[Bool.and_eq_true,Bool.and_eq_true] at hck
 obtain⟨⟨hbody,hres⟩,hname⟩:=hck
 cases hb:fn.body with
 |none=>rw[hb] at hbody;simp at hbody
 |some c=>
  rw[hb] at hbody
  simp only at hbody
  refine⟨⟨fn,hfn,by simpa using hname,by rw[hb];rfl⟩,fun w pl Bd us hH hG hargs=> ?_⟩
  refine calls_of_wp hfn hb ?_
  unfold Ct at h
  split at h
  ·rename_i hnp
   have hstart:Rel R.glob (fun m=>Bd m∨m=Be H) w (Bl pl H) pl (Be H) fn.ntmps ⟨Qz 0 args,H⟩ { tmps:=us++Array.replicate (fn.ntmps - us.size) undef,defers:=[] } w:=
    ⟨⟨pl,hH.enter,Bxf hargs _,hG,Ext.refl _ _,PlExt.refl _ _,Nat.le_refl _⟩,by simp;omega,rfl⟩
   have hn0:Rm (fun m=>Bd m∨m=Be H) (Be H:Nat):=fun m hm=>by
    rcases hm with hm|rfl
    ·exact .inl (hH.le m hm)
    ·exact .inl (Nat.le_refl _)
   have leaving: ∀ (st:St),Bho af (Be H) st=some r→∀ (a':Act) (w':World),Rel R.glob (fun m=>Bd m∨m=Be H) w (Bl pl H) pl (Be H) fn.ntmps st a' w'→
     a'.defers=[]∧∃v,(results fn a'.tmps).run P w'= .ok v w'∧∃u pl',Ending.returned v= .returned u∧Fin w pl Bd H r.1 r.2 u w' pl':=by
    intro st hl a' w' hRel
    obtain⟨⟨pl',h1,h2,h3,h4,h5,h6⟩,h7,h8⟩:=hRel
    refine⟨h8, ?_⟩
    unfold Bho at hl
    split at hl
    ·rename_i vs hvs
     obtain⟨xs,l1,l2,l3,l4⟩:=Blq h1 h2 af.res fn.results.toList vs hres hvs
     refine⟨Bcs xs.toArray,Biw l1 l3,Bcs xs.toArray, ?_⟩
     split at hl
     ·split at hl
      ·rename_i ws H1 H2 hown
       simp only[Option.some.injEq] at hl
       subst hl
       have hinv:=OwnInv.start (Bd:=Bd) h1 (Or.inr rfl) (fun m hm=> ⟨Or.inl hm,hH.le m hm⟩)
       obtain⟨plb',t,lw,rw'⟩:=Bw4 h1 vs xs st.hp pl' _ ws H1 H2 hinv hown (by omega) l4
       have hE:=t.inv.ext
       refine⟨plb',rfl,t.inv.hr, ?_,h4.trans hE,h5.trans (t.ple.le ?_),Nat.le_trans ?_ t.le⟩
       ·exact Btg (by omega) fun i hi=> (rw' i hi).mono hE (PlExt.refl _ _) (Nat.le_refl _)
       ·rw[Gf h6];omega
       ·rw[Gf h6];omega
      ·simp at hl
     ·split at hl
      ·rename_i ws hws
       simp only[Option.some.injEq] at hl
       subst hl
       obtain⟨lw,rw'⟩:=Bkq h1 (Or.inr rfl) hws (us:=xs) l4
       obtain⟨t1,t2⟩:=h1.take (Be H) (Or.inr rfl) (Bd':=Bd) (fun m hm=> ⟨Or.inl hm,hH.le m hm⟩)
       refine⟨pl',rfl,t1, ?_,h4.trans t2,h5,by rw[Gf h6];omega⟩
       rw[Gf h6]
       exact Btg (by omega) rw'
      ·simp at hl
    ·simp at hl
   split at h
   ·rename_i st hc
    exact Ba4 hR.mixed hcl Bdq af.body c hbody hn0 _ .normal st hc _ w _ hstart fun a' w' hRel=>leaving st h a' w' hRel
   ·rename_i st hc
    exact Ba4 hR.mixed hcl Bdq af.body c hbody hn0 _ .ret st hc _ w _ hstart fun a' w' hRel=>leaving st h a' w' hRel
   ·simp at h
  ·simp at h
theorem Br3 {P:Program} {R:Prg} (hR:PrgOk P R) {k:Nat} {args:List V} {H:Hp} {r:V×Hp} (h:ev R k args H=some r):N7 P R.glob k args H r:=by
 refine Bbu (X:=N7 P R.glob) ?_ (Bkh.1 h)
 intro cl hcl k args H r hr
 have hcs:Gj P R.glob cl:=fun k args H v H' hh=>hcl k args H (v,H') hh
 unfold Qo at hr
 split at hr
 ·rename_i p hp
  exact hR.prims k p hp args H r hr
 ·split at hr
  ·rename_i af haf
   exact Bj1 hR hcs haf hr
  ·simp at hr
theorem Bvw (a b:Nat):Nat.beq a b=decide (a=b):=by
 cases h:Nat.beq a b with
 |true=>simp[Nat.eq_of_beq_eq_true h]
 |false=>symm;rw[decide_eq_false_iff_not];intro e;subst e;simp at h
def Bsa:List (Nat×AFunc)→Nat→Option AFunc
 | [],_=>none
 | (k,f)::r,n=>bif Nat.beq k n then some f else Bsa r n
theorem Bhg: ∀ {t:List (Nat×AFunc)} {k:Nat} {f:AFunc},Bsa t k=some f→(k,f)∈t
 | [],_,_,h=>by simp[Bsa] at h
 | (j,g)::r,k,f,h=>by
  simp only[Bsa] at h
  cases hb:Nat.beq j k with
  |true=>
   rw[hb] at h
   simp only[cond_true,Option.some.injEq] at h
   subst h
   rw[Nat.eq_of_beq_eq_true hb]
   simp
  |false=>
   rw[hb] at h
   exact List.mem_cons_of_mem _ (Bhg h)
theorem Brl {P:Program} {R:Prg} (hR:PrgOk P R) {k:Nat} {xs:List D} {x:D} (h:ev R k (xs.map .d) []=some (.d x,[])) {w:World} {us:Array Value} (hG:GR R.glob w (fun _=>False)) (hl:us.size=xs.length) (hu: ∀i,i<xs.length→RD w (fun _=>False) (xs.getD i .nilp) (us.getD i undef)):
  Calls P k us w fun e w'=> ∃u,e= .returned u∧RD w' (fun _=>False) x u∧RowKit.Below w.heap.size w w':=by
 have E0:Ext w (fun _=>False) w (Bl (fun _ _=>none) []):=⟨rfl,rfl,rfl,Nat.le_refl _,fun b _ _=> ⟨rfl,Mw _ b⟩⟩
 refine((Br3 hR h).2 w (fun _ _=>none) (fun _=>False) us (HR.none w _) (hG.mono E0) ⟨by simpa using hl,fun i hi=> ?_⟩).mono fun e w' he=> ?_
 ·rw[Dk xs i (by simpa using hi)]
  exact .d _ _ ((hu i (by simpa using hi)).mono E0)
 ·obtain⟨u,pl',rfl,hf⟩:=he
  exact⟨u,rfl,hf.rv.dd.mono ⟨rfl,rfl,rfl,Nat.le_refl _,fun b _ _=> ⟨rfl,fun h=>h⟩⟩,hf.ext.os,hf.ext.tape,hf.ext.output,hf.ext.size,fun b hb=> (hf.ext.keep b hb (Mw _ b)).1⟩
theorem Bj2 {P:Program} {R:Prg} (hR:PrgOk P R) {k:Nat} {xs:List D} {b:Bool} (h:ev R k (xs.map .d) []=some (.d (.bool b),[])) {w:World} {us:Array Value} (hG:GR R.glob w (fun _=>False)) (hl:us.size=xs.length) (hu: ∀i,i<xs.length→RD w (fun _=>False) (xs.getD i .nilp) (us.getD i undef)):
  Calls P k us w fun e w'=>e= .returned (.bool b)∧RowKit.Below w.heap.size w w':=by
 refine(Brl hR h hG hl hu).mono fun e w' he=> ?_
 obtain⟨u,rfl,hd,hb⟩:=he
 exact⟨by rw[hd.bool_eq],hb⟩
theorem J2 (H:Hp):C8 H (Be H)=H:=by simp[C8,Be]
theorem Fq (H:Hp) (o:Obj):C8 (Bu H o) (Be H)=H:=by simp[C8,Be,Bu]
theorem Q6 (H:Hp) (o o':Obj):Bw (Bu H o) (Be H) o'=Bu H o':=by
 induction H with
 |nil=>rfl
 |cons a H ih=>exact congrArg (List.cons a) ih
theorem C9 (H:Hp) (g e:Nat) (xs:List V):Cz (Bu H (.row g e xs)) (Be H) g=some (e,xs):=by
 simp[Cz,Dz]
theorem Bb2 {n d:Nat} {H:Hp} : ∀ (ds:List D),Gs (fz n d H) (ds.map .d)=some ds
 | []=>rfl
 |x::ds=>by
  have:fz n d H (.d x)=some x:=by cases d<;>rfl
  simp only[List.map_cons,Gs,this,Bb2 ds]
theorem Br7 (n:Nat) (H:Hp) (x:D):Td n H (.d x)=some (.d x):=rfl
theorem Yy {H:Hp} {n d r g i k e:Nat} {xs:List V} (hr: ¬r<n) (h:Cz H r g=some (e,xs)) (hk:i+k≤xs.length) {ys:List D} (hm:Gs (fz n d H) ((xs.drop i).take k)=some ys):fz n (d+1) H (.slc r g i k)=some (.vals e ys):=by
 rw[fz,if_neg hr,h]
 simp only[hk,if_true,hm]
theorem Xn (H:Hp) (g e:Nat) (ds:List D) (k:Nat) (hk:k≤ds.length):Td (Be H) (Bu H (.row g e (ds.map .d))) (.slc (Be H) g 0 k)=some (.d (.vals e (ds.take k))):=by
 have h: ((ds.map V.d).drop 0).take k=(ds.take k).map V.d:=by rw[List.drop_zero,List.map_take]
 have:=Yy (H:=Bu H (.row g e (ds.map .d))) (n:=Be H) (d:=7) (r:=Be H) (g:=g) (i:=0) (k:=k) (by omega) (C9 H g e _) (by simpa using hk) (by rw[h];exact Bb2 _)
 show(if Be H<Be H then _ else(match fz (Be H) Nl _ (.slc (Be H) g 0 k) with|some x=>some (V.d x) |none=>none))=_
 rw[if_neg (by omega),show Nl=7+1 from rfl,this]
theorem Bwu (H:Hp) (g e:Nat) (ds:List D) (k:Nat) (hk:k=ds.length):Td (Be H) (Bu H (.row g e (ds.map .d))) (.slc (Be H) g 0 k)=some (.d (.vals e ds)):=by
 subst hk
 rw[Xn H g e ds _ (Nat.le_refl _),List.take_length]
def Fy (p:Nat→Bool):Nat→Nat→Option Nat
 |0,_=>none
 |n+1,i=>if p i=true then some i else Fy p n (i+1)
theorem Ri {p:Nat→Bool} : ∀ {n i j:Nat},Fy p n i=some j→i≤j∧j<i+n∧p j=true∧∀k,i≤k→k<j→p k=false
 |0,i,j,h=>by simp[Fy] at h
 |n+1,i,j,h=>by
  simp only[Fy] at h
  split at h
  ·rename_i hp
   simp only[Option.some.injEq] at h;subst h
   exact⟨Nat.le_refl _,by omega,hp,fun k h1 h2=>by omega⟩
  ·rename_i hp
   obtain⟨h1,h2,h3,h4⟩:=Ri h
   refine⟨by omega,by omega,h3,fun k k1 k2=> ?_⟩
   by_cases hk:k=i
   ·subst hk;simpa using hp
   ·exact h4 k (by omega) k2
theorem Ur {p:Nat→Bool} : ∀ {n i:Nat},Fy p n i=none→∀k,i≤k→k<i+n→p k=false
 |0,i,_,k,h1,h2=>by omega
 |n+1,i,h,k,h1,h2=>by
  simp only[Fy] at h
  split at h
  ·simp at h
  ·rename_i hp
   by_cases hk:k=i
   ·subst hk;simpa using hp
   ·exact Ur h k (by omega) (by omega)
abbrev Bq:=List UInt8
abbrev Bf (xs:List Bq):D:= .vals 1 (xs.map .str)
theorem Dt (xs:List Bq) (i:Nat) (hi:i<xs.length): (xs.map D.str).getD i .nilp= .str (xs.getD i []):=by
 simp[List.getD_eq_getElem?_getD,hi]
def B7z (xs:List Bq) (i:Nat):List V:=(xs.take i).map (fun t=>V.d (.str t))++List.replicate (xs.length - i) (V.d (.str []))
def Bmo (k:IntKind) (w:World) (a:Option Addr) (len cap:Nat) (zs:List Int):Prop:=
 (a=none∧len=0∧cap=0∧zs=[])∨
 ∃x,a=some x∧len≤cap∧cap≤maxLen∧zs.length=cap∧(∀i,i<zs.length→w.cell? (x.add i)=some (.int k (zs.getD i 0)))∧∀n∈zs,(Lit.int k n).wf=true
def Bmp (w:World) (a:Option Addr) (len cap:Nat) (ss:List ByteArray):Prop:=
 ss.length=len∧len≤cap∧len≤maxLen∧(∀s∈ss,s.size≤maxLen)∧(len=0∨∃x,a=some x∧∀i,i<len→w.cell? (x.add i)=some (.string (ss.getD i ByteArray.empty)))
def Tx (ss:List ByteArray):List Bq:=ss.map fun s=>s.data.toList
theorem Bdo {w:World} {x:Addr} {v:Value} (h:w.cell? x=some v):x.spot=none∧x.block<w.heap.size:=by
 unfold World.cell? at h
 split at h
 ·rename_i hb
  split at h
  ·simp at h
  ·rename_i hs
   exact⟨by simpa using hs,(Array.getElem?_eq_some_iff.1 hb).1⟩
 ·simp at h
theorem Bdn (b o i:Nat): (⟨b,o,none⟩:Addr).add i=⟨b,o+i,none⟩:=by
 unfold Addr.add
 split
 ·rename_i h;subst h;rfl
 ·rfl
theorem Bs6 {w:World} {a:Option Addr} {len cap:Nat} {ss:List ByteArray} (h:Bmp w a len cap ss):RD w (fun _=>False) (Bf (Tx ss)) (.slice a len cap):=by
 obtain⟨hl,hc,hm,hs,hx⟩:=h
 by_cases h0:len=0
 ·subst h0
  have:ss=[]:=List.eq_nil_of_length_eq_zero hl
  subst this
  exact .vals0 _ _ _
 ·rcases hx with hx| ⟨x,rfl,hx⟩
  ·exact absurd hx h0
  ·have hx0:=hx 0 (by omega)
   have ha0:x.add 0=x:=by simp[Addr.add]
   rw[ha0] at hx0
   obtain⟨hsp,hb⟩:=Bdo hx0
   obtain⟨b,o,sp⟩:=x
   simp only at hsp hb
   subst hsp
   have Be: ((Tx ss).map D.str).length=len:=by simp[Tx,hl]
   have Ce: ∀i,i<len→((Tx ss).map D.str).getD i .nilp= .str ((ss.getD i ByteArray.empty).data.toList):=by
    intro i hi
    rw[←hl] at hi
    simp[Tx,List.getD_eq_getElem?_getD,hi]
   have:=RD.vals (w:=w) (O:=fun _=>False) 1 ((Tx ss).map D.str) b o cap (fun i _=> .string (ss.getD i ByteArray.empty)) (by omega) (fun h=>h) hb (fun i hi=>by rw[Ce i (by omega)];rfl)
    (fun i j hi hj=>by
     obtain rfl:j=0:=by omega
     have:=hx i (by omega)
     rw[Bdn] at this
     simpa using this)
    (fun i j hi hj=>rfl)
    (fun i j hi hj=>by
     obtain rfl:j=0:=by omega
     rw[Ce i (by omega)]
     exact .str _ _ rfl)
   rw[Be] at this
   exact this
theorem Bip {w:World} {k:IntKind} {a:Option Addr} {len cap:Nat} {zs:List Int} (h:Bmo k w a len cap zs):RD w (fun _=>False) (.vals 1 ((zs.take len).map (.int k))) (.slice a len cap):=by
 rcases h with⟨rfl,rfl,rfl,rfl⟩ | ⟨x,rfl,hl,hm,hz,hx,hw⟩
 ·exact .vals0 _ _ _
 ·by_cases h0:len=0
  ·subst h0
   exact .vals0 _ _ _
  ·have hx0:=hx 0 (by omega)
   have ha0:x.add 0=x:=by simp[Addr.add]
   rw[ha0] at hx0
   obtain⟨hsp,hb⟩:=Bdo hx0
   obtain⟨b,o,sp⟩:=x
   simp only at hsp hb
   subst hsp
   have Be: ((zs.take len).map (D.int k)).length=len:=by simp;omega
   have Ce: ∀i,i<len→((zs.take len).map (D.int k)).getD i .nilp= .int k (zs.getD i 0):=by
    intro i hi
    have hi':i<zs.length:=by omega
    simp[List.getD_eq_getElem?_getD,hi,hi']
   have:=RD.vals (w:=w) (O:=fun _=>False) 1 ((zs.take len).map (D.int k)) b o cap (fun i _=> .int k (zs.getD i 0)) (by omega) (fun h=>h) hb (fun i hi=>by rw[Ce i (by omega)];rfl)
    (fun i j hi hj=>by
     obtain rfl:j=0:=by omega
     have:=hx i (by omega)
     rw[Bdn] at this
     simpa using this)
    (fun i j hi hj=>rfl)
    (fun i j hi hj=>by
     obtain rfl:j=0:=by omega
     rw[Ce i (by omega)]
     exact .int _ _)
   rw[Be] at this
   exact this
theorem Bev {w:World} {a:Option Addr} {len cap:Nat} {zs:List Int} (h:Bmo .u8 w a len cap zs): ∀i,0≤(zs.take len).getD i 0∧(zs.take len).getD i 0≤255:=by
 have hall: ∀n∈zs,0≤n∧n≤255:=by
  rcases h with⟨_,_,_,rfl⟩ | ⟨x,_,_,_,_,_,hw⟩
  ·intro n hn;simp at hn
  ·intro n hn
   have:=hw n hn
   have e1:IntKind.u8.min=0:=rfl
   have e2:IntKind.u8.max=255:=rfl
   simp only[Lit.wf,Bool.and_eq_true,decide_eq_true_eq,e1,e2] at this
   exact this
 intro i
 by_cases hi:i< (zs.take len).length
 ·rw[List.getD_eq_getElem?_getD,List.getElem?_eq_getElem hi]
  exact hall _ (List.mem_of_mem_take (List.getElem_mem hi))
 ·rw[List.getD_eq_getElem?_getD,List.getElem?_eq_none (by omega)]
  simp
theorem Pb {H:Hp} {r:Nat} {o o':Obj} (h:r<Be H):Bw (Bu H o) r o'=Bu (Bw H r o') o:=by
 induction H generalizing r with
 |nil=>simp[Be] at h
 |cons a H ih=>
  cases r with
  |zero=>rfl
  |succ r=>exact congrArg (List.cons a) (ih (by simp[Be] at h⊢;omega))
theorem K9 (H:Hp) (r:Nat) (o o':Obj):Bw (Bw H r o) r o'=Bw H r o':=by
 induction H generalizing r with
 |nil=>rfl
 |cons a H ih=>
  cases r with
  |zero=>rfl
  |succ r=>exact congrArg (List.cons a) (ih r)
end Go.Ev
