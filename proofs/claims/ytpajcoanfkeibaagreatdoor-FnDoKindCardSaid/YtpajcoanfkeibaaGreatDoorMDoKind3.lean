/- Lemmas (several texts in one). -/
import Derived.Test.YtpajcoanfkeibaaGreatDoorMDoKind2
set_option linter.unusedSimpArgs false
set_option linter.unusedVariables false
open Option renaming some.injEq → Cdt, getD_some → Cdu
open Nat renaming eq_of_beq_eq_true → Cd6, lt_of_lt_of_le → Cea
open Prod renaming mk.injEq → Cd2
open Bool renaming and_eq_true → Cdv, or_eq_true → Cdz, false_eq_true → Cdw, not_eq_true' → Cdy
open Array renaming getD_eq_getD_getElem? → Cd3, getElem?_eq_getElem → Cd5, getElem?_eq_some_iff → Cd4
open List renaming all_eq_true → Cdl, eq_nil_of_length_eq_zero → Cdk, mem_cons → Cdj, getElem?_eq_getElem → Cdh
namespace Go.Ev
open Go
def B2r (e e':Env):Prop:=∀t,e.get t=e'.get t
def EqSt (s s':St):Prop:=s.hp=s'.hp∧B2r s.env s'.env
theorem EqSt.refl (s:St):EqSt s s:=⟨rfl,fun _=>rfl⟩
theorem EqSt.trans {s s1 s2:St} (h:EqSt s s1) (k:EqSt s1 s2):EqSt s s2:=⟨h.1.trans k.1,fun t=> (h.2 t).trans (k.2 t)⟩
theorem EqSt.symm {s s1:St} (h:EqSt s s1):EqSt s1 s:=⟨h.1.symm,fun t=> (h.2 t).symm⟩
theorem Ba7 {a b:Nat} (h:Nat.blt a b=true):a<b:=by simpa using h
theorem Fy (env:Env) (d:Option Nat) (v:V) (t:Nat): (env.put d v).get t=if d=some t then v else env.get t:=by
 cases d with
 |none=>simp[Env.put]
 |some d=>
  simp only[Env.put,Env.get,Cdt]
  by_cases h:d=t
  ·subst h;simp
  ·have:Nat.beq d t=false:=by
    cases hb:Nat.beq d t with
    |false=>rfl
    |true=>exact absurd (Cd6 hb) h
   simp[this,h]
def Bj8 (x y:AOper):Bool:=
 (match x.dst with|some d=> !(y.uses.contains d) &&decide (y.dst≠some d) |none=>true) && (match y.dst with|some d=> !(x.uses.contains d) |none=>true)
def Sj (x y:AOper):Bool:=Bj8 x y&& (Mg x.op||Mg y.op|| (Rs x.op&&Rs y.op) || (Rs x.op&&Bfz y.op))
section
variable {cl:D6} {G:Gi} {n0:Bn}
theorem Wx {o:AOper} (hp:Mg o.op=true) {e:Env} {H:Hp} {v:V} {H1:Hp} (h:Jm cl G n0 o e H=some (v,H1)):H1=H∧∀H',Jm cl G n0 o e H'=some (v,H'):=by
 unfold Jm at h⊢
 split at h
 ·exact Bnr hp h
 ·split at h
  ·rename_i want _ _ b _
   cases hb: (b==want)<;>simp only[hb,cond_true,cond_false] at h⊢
   ·simp only[Cdt,Cd2] at h;obtain⟨rfl,rfl⟩:=h;exact⟨rfl,fun _=>rfl⟩
   ·exact Bnr hp h
  ·simp only[Cdt,Cd2] at h;obtain⟨rfl,rfl⟩:=h;exact⟨rfl,fun _=>rfl⟩
  ·simp at h
theorem Sd {o:AOper} (hp:Rs o.op=true) {e:Env} {H:Hp} {v:V} {H1:Hp} (h:Jm cl G n0 o e H=some (v,H1)):H1=H∧∀ob,Jm cl G n0 o e (Bp H ob)=some (v,Bp H ob):=by
 unfold Jm at h⊢
 split at h
 ·exact Bnw hp h
 ·split at h
  ·rename_i want _ _ b _
   cases hb: (b==want)<;>simp only[hb,cond_true,cond_false] at h⊢
   ·simp only[Cdt,Cd2] at h;obtain⟨rfl,rfl⟩:=h;exact⟨rfl,fun _=>rfl⟩
   ·exact Bnw hp h
  ·simp only[Cdt,Cd2] at h;obtain⟨rfl,rfl⟩:=h;exact⟨rfl,fun _=>rfl⟩
  ·simp at h
theorem Brh {o:AOper} (hp:Bfz o.op=true) {e:Env} {H:Hp} {v:V} {H1:Hp} (h:Jm cl G n0 o e H=some (v,H1)):H1=H∨∃ob,H1=Bp H ob:=by
 unfold Jm at h
 split at h
 ·exact .inr (Bns hp h)
 ·split at h
  ·rename_i want _ _ b _
   cases hb: (b==want)<;>simp only[hb,cond_true,cond_false] at h
   ·simp only[Cdt,Cd2] at h;exact .inl h.2.symm
   ·exact .inr (Bns hp h)
  ·simp only[Cdt,Cd2] at h;exact .inl h.2.symm
  ·simp at h
theorem Gy {o:AOper} {st s1:St} (h:Fa cl G n0 o st=some s1): ∃v H,Jm cl G n0 o st.env st.hp=some (v,H)∧s1=⟨st.env.put o.dst v,H⟩:=by
 rw[Bd1] at h
 split at h
 ·rename_i v H hh
  exact⟨v,H,hh,by simpa using h.symm⟩
 ·simp at h
theorem Qq {o:AOper} {st:St} {v:V} {H:Hp} (h:Jm cl G n0 o st.env st.hp=some (v,H)):Fa cl G n0 o st=some ⟨st.env.put o.dst v,H⟩:=by
 rw[Bd1,h]
theorem Bfm {o:AOper} {st s s1:St} (he:EqSt st s) (h:Fa cl G n0 o st=some s1): ∃s',Fa cl G n0 o s=some s'∧EqSt s1 s':=by
 obtain⟨v,H,ha,rfl⟩:=Gy h
 rw[Tz (e':=s.env) (fun t _=>he.2 t),he.1] at ha
 exact⟨_,Qq ha,rfl,fun t=>by simp only[Fy];split<;>simp[he.2 t]⟩
theorem Bj9 {x y:AOper} (h:Bj8 x y=true): (∀d,x.dst=some d→d ∉ y.uses)∧(∀d,x.dst=some d→y.dst≠some d)∧(∀d,y.dst=some d→d ∉ x.uses):=by
 unfold Bj8 at h
 rw[Cdv] at h
 refine⟨fun d hd=> ?_,fun d hd=> ?_,fun d hd=> ?_⟩
 ·have:=h.1;simp only[hd] at this;simp at this;exact this.1
 ·have:=h.1;simp only[hd] at this;simp at this;exact this.2
 ·have:=h.2;simp only[hd] at this;simpa using this
theorem Bmx {x:AOper} {e:Env} {H:Hp} {d:Option Nat} {v:V} (h: ∀t,d=some t→t ∉ x.uses):Jm cl G n0 x (e.put d v) H=Jm cl G n0 x e H:=
 Tz fun t ht=>by
  rw[Fy]
  split
  ·rename_i hd;exact absurd ht (h t hd)
  ·rfl
theorem Boo {x y:AOper} (hc:Sj x y=true) {st s1 s2:St} (h1:Fa cl G n0 x st=some s1) (h2:Fa cl G n0 y s1=some s2):
  ∃t1 t2,Fa cl G n0 y st=some t1∧Fa cl G n0 x t1=some t2∧EqSt s2 t2:=by
 unfold Sj at hc
 rw[Cdv] at hc
 obtain⟨ha,hk⟩:=hc
 obtain⟨a1,a2,a3⟩:=Bj9 ha
 obtain⟨v,H1,hx,rfl⟩:=Gy h1
 obtain⟨u,H2,hy,rfl⟩:=Gy h2
 rw[Bmx a1] at hy
 have main: ∀Hy,Jm cl G n0 y st.env st.hp=some (u,Hy)→Jm cl G n0 x st.env Hy=some (v,H2)→
   ∃t1 t2,Fa cl G n0 y st=some t1∧Fa cl G n0 x t1=some t2∧EqSt ⟨(st.env.put x.dst v).put y.dst u,H2⟩ t2:=by
  intro Hy k1 k2
  refine⟨_,_,Qq k1,Qq (by rw[Bmx a3];exact k2),rfl,fun t=> ?_⟩
  simp only[Fy]
  by_cases e1:y.dst=some t<;>by_cases e2:x.dst=some t<;>simp only[e1,e2,if_true,if_false]
  exact absurd e1 (a2 t e2)
 simp only[Cdz,Cdv] at hk
 rcases hk with((hk|hk) |hk) |hk
 ·obtain⟨rfl,hall⟩:=Wx hk hx
  exact main _ hy (hall _)
 ·obtain⟨rfl,hall⟩:=Wx hk hy
  exact main _ (hall _) hx
 ·obtain⟨rfl,_⟩:=Sd hk.1 hx
  obtain⟨rfl,_⟩:=Sd hk.2 hy
  exact main _ hy hx
 ·obtain⟨rfl,hm⟩:=Sd hk.1 hx
  rcases Brh hk.2 hy with rfl| ⟨ob,rfl⟩
  ·exact main _ hy hx
  ·exact main _ hy (hm ob)
noncomputable def Jo (cl:D6) (G:Gi) (n0:Bn) (aos:List AOper):List Nat→St→Option St
 | [],st=>some st
 |i::r,st=>
  match aos[i]? with
  |some o=> (match Fa cl G n0 o st with|some st'=>Jo cl G n0 aos r st'|none=>none)
  |none=>Jo cl G n0 aos r st
theorem Bfn (pre aos:List AOper) (st:St):Lb cl G n0 aos st=Jo cl G n0 (pre++aos) (List.range' pre.length aos.length) st:=by
 induction aos generalizing pre st with
 |nil=>rfl
 |cons o aos ih=>
  have hg: (pre++o::aos)[pre.length]? =some o:=by simp
  simp only[List.length_cons,List.range'_succ,Jo,Lb,hg]
  cases Fa cl G n0 o st with
  |none=>rfl
  |some st'=>
   have:=ih (pre++[o]) st'
   simp only[List.append_assoc,List.singleton_append,List.length_append,List.length_singleton] at this
   exact this
theorem Bhn (aos:List AOper) (st:St):Lb cl G n0 aos st=Jo cl G n0 aos (List.range aos.length) st:=by
 rw[List.range_eq_range']
 exact Bfn [] aos st
theorem U6 {aos:List AOper} : ∀ (l:List Nat) {st s st':St},EqSt st s→Jo cl G n0 aos l st=some st'→∃s',Jo cl G n0 aos l s=some s'∧EqSt st' s'
 | [],_,_,_,he,h=>by simp only[Jo,Cdt] at h⊢;subst h;exact⟨_,rfl,he⟩
 |i::l,st,s,st',he,h=>by
  simp only[Jo] at h⊢
  cases ho:aos[i]? with
  |none=>
   simp only[ho] at h⊢
   exact U6 l he h
  |some o=>
   simp only[ho] at h⊢
   cases h1:Fa cl G n0 o st with
   |none=>simp only[h1] at h;simp at h
   |some s1=>
    simp only[h1] at h
    obtain⟨s1',h1',e1⟩:=Bfm he h1
    simp only[h1']
    exact U6 l e1 h
theorem Ra {aos:List AOper} {i:Nat} {oi:AOper} (hi:aos[i]? =some oi): ∀ (p q:List Nat) {st st':St},(∀j∈p,∃oj,aos[j]? =some oj∧Sj oj oi=true)→
  Jo cl G n0 aos (p++i::q) st=some st'→∃s1 s',Fa cl G n0 oi st=some s1∧Jo cl G n0 aos (p++q) s1=some s'∧EqSt st' s'
 | [],q,st,st',_,h=>by
  simp only[List.nil_append,Jo,hi] at h⊢
  split at h
  ·rename_i s1 h1
   exact⟨s1,st',h1,h,EqSt.refl _⟩
  ·simp at h
 |j::p,q,st,st',hc,h=>by
  obtain⟨oj,hj,hcm⟩:=hc j (by simp)
  simp only[List.cons_append,Jo,hj] at h⊢
  split at h
  ·rename_i sj h1
   obtain⟨sji,s',h2,h3,h4⟩:=Ra hi p q (fun k hk=>hc k (by simp[hk])) h
   obtain⟨t1,t2,k1,k2,k3⟩:=Boo hcm h1 h2
   obtain⟨s'',m1,m2⟩:=U6 (p++q) k3 h3
   exact⟨t1,s'',k1,by rw[k2];exact m1,h4.trans m2⟩
  ·simp at h
end
structure Rel (G:Gi) (Bd:Nat→Prop) (w0:World) (O0:Gz) (pl0:Pl) (n0 nt:Nat) (st:St) (a:Act) (w:World):Prop where
 ex: ∃pl,HR w pl Bd st.hp∧RE w (Bl pl st.hp) pl (Bc st.hp) st.env a∧GR G w (Bl pl st.hp)∧Ext w0 O0 w (Bl pl st.hp)∧PlExt n0 pl0 pl∧n0≤Bc st.hp
 nt:nt≤a.tmps.size
 df:a.defers=[]
def Xc (P:Program) (ops:Array Oper) (nt:Nat) (o:Oper) (ao:AOper):Bool:=
 decide (o.dst=ao.dst) && (match o.dst with|some d=>Nat.blt d nt|none=>true) &&
 (match o.guard,ao.guard with
  |none,none=>true
  |some (g,want),some (t,want')=> (want==want') &&decide ((ops[g]?).bind (·.dst)=some t) &&Nat.blt t nt
  |_,_=>false) &&Brx P o.op ao.op
section
variable {P:Program} {cl:D6} {G:Gi} {Bd:Nat→Prop} {w0:World} {O0:Gz} {pl0:Pl} {n0 nt:Nat} {B:Bn}
theorem Rel.congr {st s:St} {a:Act} {w:World} (h:Rel G Bd w0 O0 pl0 n0 nt st a w) (he:EqSt st s):Rel G Bd w0 O0 pl0 n0 nt s a w:=by
 obtain⟨⟨pl,h1,h2,h3,h4,h5,h6⟩,h7,h8⟩:=h
 obtain⟨e1,e2⟩:=he
 rw[e1] at h1 h2 h3 h4 h6
 exact⟨⟨pl,h1,fun t ht=>by rw[←e2 t] at ht⊢;exact h2 t ht,h3,h4,h5,h6⟩,h7,h8⟩
theorem Btu {w:World} {O:Gz} {pl:Pl} {n:Nat} {env:Env} {a:Act} (hE:RE w O pl n env a) {d:Option Nat} {v:V} {u:Value} (hv:RV w O pl n v u) (hd: ∀t,d=some t→t<a.tmps.size):RE w O pl n (env.put d v) (a.put d u):=by
 intro t ht
 rw[Fy] at ht⊢
 cases d with
 |none=>simp only[reduceCtorEq,if_false] at ht⊢;exact hE t ht
 |some d=>
  by_cases h:d=t
  ·subst h
   simp only[if_true,Act.put]
   have:=hd d rfl
   rw[Cd3,Array.getElem?_setIfInBounds_self_of_lt this]
   exact hv
  ·have hne: ¬ (some d=some t):=by simpa using h
   rw[if_neg hne] at ht⊢
   simp only[Act.put]
   rw[Cd3,Array.getElem?_setIfInBounds_ne h,←Cd3]
   exact hE t ht
theorem Bip (a:Act) (d:Option Nat) (u:Value): (a.put d u).tmps.size=a.tmps.size:=by cases d<;>simp[Act.put]
theorem Bnt (a:Act) (d:Option Nat) (u:Value): (a.put d u).defers=a.defers:=by cases d<;>rfl
theorem P8 (hcl:Fg P G cl) (hn0:N8 Bd B) {ops:Array Oper} {i:Nat} {o:Oper} {ao:AOper} (ho:ops[i]? =some o) (hc:Xc P ops nt o ao=true) {st s1:St} {a:Act} {w:World} (hR:Rel G Bd w0 O0 pl0 n0 nt st a w)
  (h:Fa cl G B ao st=some s1) {Q:Exit→Act→World→Prop} {K:Act→World→Prop} (hK: ∀a' w',Rel G Bd w0 O0 pl0 n0 nt s1 a' w'→K a' w'):wpOp P ops Q i K a w:=by
 unfold Xc at hc
 rw[Cdv,Cdv,Cdv,decide_eq_true_eq] at hc
 obtain⟨⟨⟨hd,hdn⟩,hg⟩,hop⟩:=hc
 obtain⟨v,H1,hact,rfl⟩:=Gy h
 obtain⟨⟨pl,h1,h2,h3,h4,h5,h6⟩,h7,h8⟩:=hR
 have hlt: ∀t,o.dst=some t→t<a.tmps.size:=fun t ht=>by
  rw[ht] at hdn
  exact Cea (Ba7 hdn) h7
 have run:Ce cl G B st.env st.hp ao.op=some (v,H1)→o.wp P a w K Q:=by
  intro hev
  refine Bkr hcl hn0 h3 h1 h2 hop hev K Q fun u w' pl' hf=>hK _ _ ⟨⟨pl',hf.hr, ?_,h3.mono hf.ext,h4.trans hf.ext,h5.trans (hf.ple.le h6),Nat.le_trans h6 hf.le⟩,by rw[Bip];exact h7,by rw[Bnt];exact h8⟩
  rw[←hd]
  exact Btu (h2.mono hf.ext hf.ple hf.le) hf.rv hlt
 have skip:v= .und→H1=st.hp→K (a.put o.dst undef) w:=by
  rintro rfl rfl
  refine hK _ _ ⟨⟨pl,h1, ?_,h3,h4,h5,h6⟩,by rw[Bip];exact h7,by rw[Bnt];exact h8⟩
  rw[←hd]
  exact Btu h2 .und hlt
 unfold wpOp
 simp only[ho]
 unfold Jm at hact
 split at hg
 ·rename_i g1 g2
  simp only[g2] at hact
  have hw:Region.wanted o (yielded ops a.tmps)=true:=by simp[Region.wanted,g1]
  rw[if_pos hw]
  exact .inl (run hact)
 ·rename_i g want t want' g1 g2
  rw[Cdv,Cdv,decide_eq_true_eq] at hg
  obtain⟨⟨hwant,htt⟩,htn⟩:=hg
  have hwant:want=want':=by simpa using hwant
  subst hwant
  have htl:t<a.tmps.size:=Cea (Ba7 htn) h7
  have hyi:yielded ops a.tmps g=match a.tmps[t]? with|some (.bool b)=>some b|_=>none:=by
   simp only[yielded,htt,Option.bind_some]
   rfl
  simp only[g2] at hact
  split at hact
  ·rename_i b hb
   have hv:=h2 t (by rw[hb];rfl)
   rw[hb] at hv
   have he:=hv.bool_eq
   have hx:a.tmps[t]? =some (.bool b):=by
    rw[Cd3,Cd5 htl] at he
    rw[Cd5 htl]
    simpa using he
   have hw:Region.wanted o (yielded ops a.tmps)=(b==want):=by
    simp only[Region.wanted,g1,hyi,hx]
    cases b<;>cases want<;>rfl
   cases hbw: (b==want) with
   |true=>
    rw[hw,hbw,if_pos rfl]
    simp only[hbw,cond_true] at hact
    exact .inl (run hact)
   |false=>
    rw[hw,hbw,if_neg (by simp)]
    simp only[hbw,cond_false,Cdt,Cd2] at hact
    exact skip hact.1.symm hact.2.symm
  ·rename_i hb
   have hv:=h2 t (by rw[hb];rfl)
   rw[hb] at hv
   have he:a.tmps.getD t undef=undef:=by
    generalize a.tmps.getD t undef=q at hv
    cases hv;rfl
   have hx:a.tmps[t]? =some undef:=by
    rw[Cd3,Cd5 htl] at he
    rw[Cd5 htl]
    simpa using he
   have hw:Region.wanted o (yielded ops a.tmps)=false:=by
    simp only[Region.wanted,g1,hyi,hx,undef]
    rfl
   rw[hw,if_neg (by simp)]
   simp only[Cdt,Cd2] at hact
   exact skip hact.1.symm hact.2.symm
  ·simp at hact
 ·simp at hg
def K5 (P:Program) (all:Array Oper) (nt:Nat):List Oper→List AOper→Bool
 | [],[]=>true
 |o::os,a::ags=>Xc P all nt o a&&K5 P all nt os ags
 |_,_=>false
theorem Km {all:Array Oper} : ∀ {os:List Oper} {ags:List AOper},K5 P all nt os ags=true→os.length=ags.length∧∀ (i:Nat) (o:Oper),os[i]? =some o→∃a,ags[i]? =some a∧Xc P all nt o a=true
 | [],[],_=> ⟨rfl,fun i o h=>by simp at h⟩
 | [],_::_,h=>by simp[K5] at h
 |_::_,[],h=>by simp[K5] at h
 |o::os,a::ags,h=>by
  simp only[K5,Cdv] at h
  obtain⟨h1,h2⟩:=Km h.2
  refine⟨by simp[h1],fun i o' hi=> ?_⟩
  cases i with
  |zero=>simp at hi;subst hi;exact⟨a,rfl,h.1⟩
  |succ i=>exact h2 i o' (by simpa using hi)
theorem Bbx (hcl:Fg P G cl) (hn0:N8 Bd B) {ops:Array Oper} {aos:List AOper} (hc:K5 P ops nt ops.toList aos=true) {Q:Exit→Act→World→Prop} : ∀ (l:List Nat) {st st':St} {a:Act} {w:World},Rel G Bd w0 O0 pl0 n0 nt st a w→
  Jo cl G B aos l st=some st'→(∀a' w',Rel G Bd w0 O0 pl0 n0 nt st' a' w'→Q .normal a' w')→wpOps P ops Q l a w
 | [],st,st',a,w,hR,h,hQ=>by simp only[Jo,Cdt] at h;subst h;exact hQ a w hR
 |i::l,st,st',a,w,hR,h,hQ=>by
  rw[wpOps_cons]
  simp only[Jo] at h
  obtain⟨hl,Cc⟩:=Km hc
  cases ho:ops[i]? with
  |none=>
   have:aos[i]? =none:=by
    rw[List.getElem?_eq_none_iff,←hl]
    simpa using ho
   simp only[this] at h
   unfold wpOp
   simp only[ho]
   exact Bbx hcl hn0 hc l hR h hQ
  |some o=>
   obtain⟨ao,hao,hck⟩:=Cc i o (by simpa using ho)
   simp only[hao] at h
   split at h
   ·rename_i s1 h1
    exact P8 hcl hn0 ho hck hR h1 fun a' w' hR'=>Bbx hcl hn0 hc l hR' h hQ
   ·simp at h
def Nn (ops:Array Oper):Nat→Nat→Nat→Bool
 |0,_,_=>false
 |f+1,i,j=>match ops[i]? with|some o=>o.after.any (fun e=>Region.binds .any e&& (Nat.beq e.on j||Nn ops f e.on j)) |none=>false
def Brs (ops:Array Oper):Bool:=(List.range ops.size).all fun i=>match ops[i]? with|some o=>o.after.all (fun e=> !Region.binds .any e||Nat.blt e.on i) |none=>true
def Bnn (ops:Array Oper) (aos:List AOper):Bool:=
 Brs ops&& (List.range ops.size).all fun i=> (List.range i).all fun j=> (match aos[j]?,aos[i]? with|some x,some y=>Sj x y|_,_=>false) ||Nn ops ops.size i j
def Bfa (ops:Array Oper) (listed:Array Bool):Prop:=∀ (k:Nat) (o:Oper),listed.getD k false=true→ops[k]? =some o→∀e∈o.after,Region.binds .any e=true→listed.getD e.on false=true
theorem Ky {ops:Array Oper} {listed:Array Bool} (hd:Bfa ops listed): ∀ (f:Nat) (i j:Nat),(∀o,ops[i]? =some o→∀e∈o.after,Region.binds .any e=true→listed.getD e.on false=true)→Nn ops f i j=true→listed.getD j false=true
 |0,_,_,_,h=>by simp[Nn] at h
 |f+1,i,j,hp,h=>by
  simp only[Nn] at h
  split at h
  ·rename_i o ho
   obtain⟨e,he,hb⟩:=Array.any_eq_true'.1 h
   rw[Cdv,Cdz] at hb
   have hl:=hp o ho e he hb.1
   rcases hb.2 with hb|hb
   ·have:=Cd6 hb
    subst this;exact hl
   ·exact Ky hd f e.on j (fun o' ho' e' he' hb'=>hd e.on o' hl ho' e' he' hb') hb
  ·simp at h
def Kj (listed:Array Bool) (n:Nat):List Nat:=(List.range n).filter fun i=> !listed.getD i true
theorem Bi0 {n a:Nat} {l₁ l₂:List Nat} (h:List.range n=l₁++a::l₂): ∀j,j<a→j∈l₁:=by
 have h1: (List.range n)[l₁.length]? =some a:=by rw[h];simp
 have h2:l₁.length=a:=by
  rw[List.getElem?_range (by
   have: (List.range n).length=l₁.length+(l₂.length+1):=by rw[h];simp
   simp at this;omega)] at h1
  simpa using h1
 intro j hj
 have hjn:j<l₁.length:=by omega
 have h3: (List.range n)[j]? =l₁[j]? :=by rw[h,List.getElem?_append_left hjn]
 have hn:j<n:=by
  have: (List.range n).length=l₁.length+(l₂.length+1):=by rw[h];simp
  simp at this;omega
 rw[List.getElem?_range hn] at h3
 exact List.mem_of_getElem? h3.symm
theorem Mk {listed:Array Bool} {i:Nat} (hl:i<listed.size) (h:listed.getD i true=true):listed.getD i false=true:=by
 simp[hl] at h⊢;exact h
theorem Boi (hcl:Fg P G cl) (hn0:N8 Bd B) {ops:Array Oper} {aos:List AOper} (hc:K5 P ops nt ops.toList aos=true) (hord:Bnn ops aos=true) {Q:Exit→Act→World→Prop} : ∀ (fuel:Nat) (listed:Array Bool) {st st':St} {a:Act} {w:World},
  listed.size=ops.size→Bfa ops listed→Rel G Bd w0 O0 pl0 n0 nt st a w→Jo cl G B aos (Kj listed ops.size) st=some st'→(Kj listed ops.size).length≤fuel→(∀a' w',Rel G Bd w0 O0 pl0 n0 nt st' a' w'→Q .normal a' w')→
  wpAny P .any ops Q fuel listed a w:=by
 obtain⟨hl,Cc⟩:=Km hc
 unfold Bnn at hord
 rw[Cdv] at hord
 have hback: ∀i o,ops[i]? =some o→∀e∈o.after,Region.binds .any e=true→e.on<i:=by
  intro i o ho e he hb
  have hi:=(Cd4.1 ho).1
  have:=Cdl.1 hord.1 i (List.mem_range.2 hi)
  simp only[ho] at this
  have:=Array.all_eq_true_iff_forall_mem.1 this e he
  simp[hb] at this
  exact this
 have hready: ∀listed:Array Bool,Kj listed ops.size=[]→Region.ready .any ops listed=[]:=by
  intro listed hr
  unfold Region.ready
  rw[List.filter_eq_nil_iff]
  intro i hi hh
  have:i∈Kj listed ops.size:=by
   unfold Kj
   rw[List.mem_filter]
   simp only[Cdv] at hh
   exact⟨hi,hh.1⟩
  rw[hr] at this
  cases this
 intro fuel
 induction fuel with
 |zero=>
  intro listed st st' a w hs hd hR h hf hQ
  have hr:Kj listed ops.size=[]:=Cdk (by omega)
  rw[hr] at h
  simp only[Jo,Cdt] at h;subst h
  exact⟨hready listed hr,hQ a w hR⟩
 |succ fuel ih=>
  intro listed st st' a w hs hd hR h hf hQ
  refine⟨fun hemp=> ?_,fun i hi=> ?_⟩
  ·
   have hr:Kj listed ops.size=[]:=by
    cases hr:Kj listed ops.size with
    |nil=>rfl
    |cons i q=>
     exfalso
     unfold Kj at hr
     obtain⟨l₁,l₂,e1,e2,e3,_⟩:=List.filter_eq_cons_iff.1 hr
     have hin:i<ops.size:=by
      have:i∈List.range ops.size:=by rw[e1];simp
      exact List.mem_range.1 this
     have:i∈Region.ready .any ops listed:=by
      rw[mem_ready]
      refine⟨by simpa using e3,ops[i],Cd5 hin,fun e he hb=> ?_⟩
      have hlt:=hback i _ (Cd5 hin) e he hb
      have hm:=Bi0 e1 e.on hlt
      have:=e2 _ hm
      exact Mk (by omega) (by simpa using this)
     rw[hemp] at this
     cases this
   rw[hr] at h
   simp only[Jo,Cdt] at h;subst h
   exact hQ a w hR
  ·obtain⟨hun,o,ho,hall⟩:=mem_ready.1 hi
   have hin:=(Cd4.1 ho).1
   obtain⟨ao,hao,hck⟩:=Cc i o (by simpa using ho)
   have hmem:i∈Kj listed ops.size:=by
    unfold Kj
    rw[List.mem_filter]
    exact⟨List.mem_range.2 hin,by simp only[hun];rfl⟩
   obtain⟨p,q,hpq⟩:=List.append_of_mem hmem
   have hsort: (Kj listed ops.size).Pairwise (·< ·):=List.Pairwise.filter _ List.pairwise_lt_range
   have hcomm: ∀j∈p,∃oj,aos[j]? =some oj∧Sj oj ao=true:=by
    intro j hj
    rw[hpq] at hsort
    have hji:j<i:=(List.pairwise_append.1 hsort).2.2 j hj i (by simp)
    have hjr:j∈Kj listed ops.size:=by rw[hpq];simp[hj]
    unfold Kj at hjr
    rw[List.mem_filter] at hjr
    have:=Cdl.1 (Cdl.1 hord.2 i (List.mem_range.2 hin)) j (List.mem_range.2 hji)
    rw[Cdz] at this
    rcases this with h1|h1
    ·split at h1
     ·rename_i x y hx hy
      rw[hao] at hy
      simp only[Cdt] at hy;subst hy
      exact⟨x,hx,h1⟩
     ·simp at h1
    ·exfalso
     have:=Ky hd _ i j (fun o' ho' e he hb=>by
      rw[ho] at ho'
      simp only[Cdt] at ho';subst ho'
      exact hall e he hb) h1
     have h2:=hjr.2
     have hjs:j<listed.size:=by rw[hs];exact List.mem_range.1 hjr.1
     simp[hjs] at this h2
     rw[h2] at this;cases this
   rw[hpq] at h
   obtain⟨s1,s',k1,k2,k3⟩:=Ra hao p q hcomm h
   have hnd: (Kj listed ops.size).Nodup:=List.Pairwise.imp (fun h=>Nat.ne_of_lt h) hsort
   have hrest:Kj (listed.setIfInBounds i true) ops.size=p++q:=by
    have h1:Kj (listed.setIfInBounds i true) ops.size=(Kj listed ops.size).filter (fun k=>k !=i):=by
     unfold Kj
     rw[List.filter_filter]
     refine List.filter_congr fun k hk=> ?_
     by_cases hki:k=i
     ·subst hki
      simp[hs,hin]
     ·rw[getD_set_ne true (Ne.symm hki)]
      simp[hki]
    rw[h1,hpq]
    rw[hpq] at hnd
    have hip:i ∉ p∧i ∉ q:=by
     obtain⟨n1,n2,n3⟩:=List.nodup_append.1 hnd
     exact⟨fun hm=>n3 i hm i (by simp) rfl,(List.nodup_cons.1 n2).1⟩
    rw[List.filter_append,List.filter_cons_of_neg (by simp),List.filter_eq_self.2 (fun k hk=>by simp;rintro rfl;exact hip.1 hk),List.filter_eq_self.2 (fun k hk=>by simp;rintro rfl;exact hip.2 hk)]
   refine P8 hcl hn0 ho hck hR k1 fun a' w' hR'=>ih _ (by simpa using hs) ?_ hR' (by rw[hrest];exact k2) ?_ fun a2 w2 hR2=>hQ a2 w2 (hR2.congr k3.symm)
   ·intro k ok hk hok e he hb
    by_cases hki:k=i
    ·subst hki
     rw[ho] at hok
     simp only[Cdt] at hok;subst hok
     exact getD_set_true (hall e he hb)
    ·rw[getD_set_ne false (Ne.symm hki)] at hk
     exact getD_set_true (hd k ok hk hok e he hb)
   ·rw[hrest]
    rw[hpq] at hf
    simp at hf⊢
    omega
def Bk6 (ops:Array Oper) (aos:List AOper):List Nat→List Nat→Bool
 |_,[]=>true
 |pre,i::r=>
  !pre.contains i&&Nat.blt i ops.size&& (match ops[i]? with|some o=>o.after.all (fun e=> !Region.binds .any e||pre.contains e.on) |none=>false) &&
   pre.all (fun j=> (match aos[j]?,aos[i]? with|some x,some y=>Sj x y|_,_=>false) ||Nn ops ops.size i j) &&Bk6 ops aos (i::pre) r
theorem Uf {ops:Array Oper} {aos:List AOper} : ∀ {pre σ:List Nat},Bk6 ops aos pre σ=true→∀ {l₁:List Nat} {i:Nat} {l₂:List Nat},σ=l₁++i::l₂→
  i ∉ pre∧i ∉ l₁∧i<ops.size∧(∀o,ops[i]? =some o→∀e∈o.after,Region.binds .any e=true→e.on∈pre∨e.on∈l₁)∧
   ∀j,j∈pre∨j∈l₁→(∃x y,aos[j]? =some x∧aos[i]? =some y∧Sj x y=true)∨Nn ops ops.size i j=true
 |pre,[],h,l₁,i,l₂,e=>by simp at e
 |pre,a::r,h,l₁,i,l₂,e=>by
  simp only[Bk6,Cdv] at h
  obtain⟨⟨⟨⟨h1,h2⟩,h3⟩,h4⟩,h5⟩:=h
  cases l₁ with
  |nil=>
   simp only[List.nil_append,List.cons.injEq] at e
   obtain⟨rfl,rfl⟩:=e
   refine⟨by simpa using h1,by simp,Ba7 h2,fun o ho e he hb=> .inl ?_,fun j hj=> ?_⟩
   ·simp only[ho] at h3
    have:=Array.all_eq_true_iff_forall_mem.1 h3 e he
    simpa[hb] using this
   ·have hj:j∈pre:=by simpa using hj
    have:=Cdl.1 h4 j hj
    rw[Cdz] at this
    rcases this with h|h
    ·split at h
     ·rename_i x y hx hy
      exact .inl ⟨x,y,hx,hy,h⟩
     ·simp at h
    ·exact .inr h
  |cons b l₁=>
   simp only[List.cons_append,List.cons.injEq] at e
   obtain⟨rfl,rfl⟩:=e
   obtain⟨k1,k2,k3,k4,k5⟩:=Uf h5 rfl
   simp only[Cdj,not_or] at k1
   refine⟨k1.2,by simp[k1.1,k2],k3,fun o ho e he hb=> ?_,fun j hj=>k5 j ?_⟩
   ·rcases k4 o ho e he hb with h|h
    ·rcases Cdj.1 h with rfl|h
     ·exact .inr (by simp)
     ·exact .inl h
    ·exact .inr (by simp[h])
   ·rcases hj with h|h
    ·exact .inl (by simp[h])
    ·rcases Cdj.1 h with rfl|h
     ·exact .inl (by simp)
     ·exact .inr h
theorem Wm {ops:Array Oper} {aos:List AOper} : ∀ {pre σ:List Nat},Bk6 ops aos pre σ=true→σ.Nodup∧∀i∈σ,i ∉ pre
 |pre,[],_=> ⟨List.nodup_nil,fun i hi=>by simp at hi⟩
 |pre,a::r,h=>by
  have h0:=h
  simp only[Bk6,Cdv] at h
  obtain⟨n1,n2⟩:=Wm h.2
  have ha:a ∉ pre:=by simpa using h.1.1.1.1
  refine⟨List.nodup_cons.2 ⟨fun hm=>n2 a hm (by simp),n1⟩,fun i hi=> ?_⟩
  rcases Cdj.1 hi with rfl|hi
  ·exact ha
  ·intro hp
   exact n2 i hi (by simp[hp])
def Dx (σ:List Nat) (listed:Array Bool):List Nat:=σ.filter fun i=> !listed.getD i true
theorem Bj5 (hcl:Fg P G cl) (hn0:N8 Bd B) {ops:Array Oper} {aos:List AOper} (hc:K5 P ops nt ops.toList aos=true) {σ:List Nat} (hord:Bk6 ops aos [] σ=true) (hall: ∀i,i<ops.size→i∈σ) {Q:Exit→Act→World→Prop} : ∀ (fuel:Nat) (listed:Array Bool) {st st':St} {a:Act} {w:World},
  listed.size=ops.size→Bfa ops listed→Rel G Bd w0 O0 pl0 n0 nt st a w→Jo cl G B aos (Dx σ listed) st=some st'→(Dx σ listed).length≤fuel→(∀a' w',Rel G Bd w0 O0 pl0 n0 nt st' a' w'→Q .normal a' w')→
  wpAny P .any ops Q fuel listed a w:=by
 obtain⟨hl,Cc⟩:=Km hc
 have hsn:=(Wm hord).1
 have hready: ∀listed:Array Bool,Dx σ listed=[]→Region.ready .any ops listed=[]:=by
  intro listed hr
  unfold Region.ready
  rw[List.filter_eq_nil_iff]
  intro i hi hh
  have:i∈Dx σ listed:=by
   unfold Dx
   rw[List.mem_filter]
   simp only[Cdv] at hh
   exact⟨hall i (List.mem_range.1 hi),hh.1⟩
  rw[hr] at this
  cases this
 intro fuel
 induction fuel with
 |zero=>
  intro listed st st' a w hs hd hR h hf hQ
  have hr:Dx σ listed=[]:=Cdk (by omega)
  rw[hr] at h
  simp only[Jo,Cdt] at h;subst h
  exact⟨hready listed hr,hQ a w hR⟩
 |succ fuel ih=>
  intro listed st st' a w hs hd hR h hf hQ
  refine⟨fun hemp=> ?_,fun i hi=> ?_⟩
  ·have hr:Dx σ listed=[]:=by
    cases hr:Dx σ listed with
    |nil=>rfl
    |cons i q=>
     exfalso
     unfold Dx at hr
     obtain⟨l₁,l₂,e1,e2,e3,_⟩:=List.filter_eq_cons_iff.1 hr
     obtain⟨_,_,hin,hdep,_⟩:=Uf hord e1
     have:i∈Region.ready .any ops listed:=by
      rw[mem_ready]
      refine⟨by simpa using e3,ops[i],Cd5 hin,fun e he hb=> ?_⟩
      have hm:e.on∈l₁:=by
       rcases hdep _ (Cd5 hin) e he hb with h|h
       ·simp at h
       ·exact h
      obtain⟨m1,m2,em⟩:=List.append_of_mem hm
      have e1':σ=m1++e.on:: (m2++i::l₂):=by rw[e1,em];simp
      have hlt:=(Uf hord e1').2.2.1
      have:=e2 _ hm
      exact Mk (by omega) (by simpa using this)
     rw[hemp] at this
     cases this
   rw[hr] at h
   simp only[Jo,Cdt] at h;subst h
   exact hQ a w hR
  ·obtain⟨hun,o,ho,hall'⟩:=mem_ready.1 hi
   have hin:=(Cd4.1 ho).1
   obtain⟨ao,hao,hck⟩:=Cc i o (by simpa using ho)
   have hmem:i∈Dx σ listed:=by
    unfold Dx
    rw[List.mem_filter]
    exact⟨hall i hin,by simp only[hun];rfl⟩
   obtain⟨p,q,hpq⟩:=List.append_of_mem hmem
   have hsp: ∃l₁ l₂,σ=l₁++i::l₂∧∀j∈p,j∈l₁:=by
    have h0:=hpq
    unfold Dx at h0
    obtain⟨m1,m2,e1,e2,e3⟩:=List.filter_eq_append_iff.1 h0
    obtain⟨k1,k2,e4,e5,_,_⟩:=List.filter_eq_cons_iff.1 e3
    refine⟨m1++k1,k2,by rw[e1,e4];simp,fun j hj=> ?_⟩
    rw[←e2] at hj
    exact List.mem_append_left _ (List.mem_filter.1 hj).1
   obtain⟨l₁,l₂,hσ,hpl⟩:=hsp
   obtain⟨_,_,_,_,hcom⟩:=Uf hord hσ
   have hcomm: ∀j∈p,∃oj,aos[j]? =some oj∧Sj oj ao=true:=by
    intro j hj
    have hjr:j∈Dx σ listed:=by rw[hpq];simp[hj]
    unfold Dx at hjr
    rw[List.mem_filter] at hjr
    rcases hcom j (.inr (hpl j hj)) with⟨x,y,hx,hy,h1⟩ |h1
    ·rw[hao] at hy
     simp only[Cdt] at hy;subst hy
     exact⟨x,hx,h1⟩
    ·exfalso
     have:=Ky hd _ i j (fun o' ho' e he hb=>by
      rw[ho] at ho'
      simp only[Cdt] at ho';subst ho'
      exact hall' e he hb) h1
     have h2:=hjr.2
     obtain⟨m1,m2,em⟩:=List.append_of_mem hjr.1
     have hjs:j<listed.size:=by rw[hs];exact(Uf hord em).2.2.1
     simp[hjs] at this h2
     rw[h2] at this;cases this
   rw[hpq] at h
   obtain⟨s1,s',k1,k2,k3⟩:=Ra hao p q hcomm h
   have hnd: (Dx σ listed).Nodup:=List.Pairwise.filter _ hsn
   have hrest:Dx σ (listed.setIfInBounds i true)=p++q:=by
    have h1:Dx σ (listed.setIfInBounds i true)=(Dx σ listed).filter (fun k=>k !=i):=by
     unfold Dx
     rw[List.filter_filter]
     refine List.filter_congr fun k hk=> ?_
     by_cases hki:k=i
     ·subst hki
      simp[hs,hin]
     ·rw[getD_set_ne true (Ne.symm hki)]
      simp[hki]
    rw[h1,hpq]
    rw[hpq] at hnd
    have hip:i ∉ p∧i ∉ q:=by
     obtain⟨n1,n2,n3⟩:=List.nodup_append.1 hnd
     exact⟨fun hm=>n3 i hm i (by simp) rfl,(List.nodup_cons.1 n2).1⟩
    rw[List.filter_append,List.filter_cons_of_neg (by simp),List.filter_eq_self.2 (fun k hk=>by simp;rintro rfl;exact hip.1 hk),List.filter_eq_self.2 (fun k hk=>by simp;rintro rfl;exact hip.2 hk)]
   refine P8 hcl hn0 ho hck hR k1 fun a' w' hR'=>ih _ (by simpa using hs) ?_ hR' (by rw[hrest];exact k2) ?_ fun a2 w2 hR2=>hQ a2 w2 (hR2.congr k3.symm)
   ·intro k ok hk hok e he hb
    by_cases hki:k=i
    ·subst hki
     rw[ho] at hok
     simp only[Cdt] at hok;subst hok
     exact getD_set_true (hall' e he hb)
    ·rw[getD_set_ne false (Ne.symm hki)] at hk
     exact getD_set_true (hd k ok hk hok e he hb)
   ·rw[hrest]
    rw[hpq] at hf
    simp at hf⊢
    omega
def Qm (n:Nat) (σ:List Nat) (aos:List AOper):List AOper:=(List.range n).map fun i=>aos.getD (σ.idxOf i) default
theorem Bap {u:List AOper} : ∀ {aos:List AOper} {σ:List Nat},aos.length=σ.length→(∀ (k i:Nat),σ[k]? =some i→u[i]? =aos[k]?)→∀st,Lb cl G B aos st=Jo cl G B u σ st
 | [],[],_,_,st=>rfl
 | [],_::_,h,_,_=>by simp at h
 |_::_,[],h,_,_=>by simp at h
 |a::aos,i::σ,h,hk,st=>by
  have h0:u[i]? =some a:=by simpa using hk 0 i rfl
  simp only[Lb,Jo,h0]
  cases Fa cl G B a st with
  |none=>rfl
  |some s=>exact Bap (by simpa using h) (fun k j hj=>by simpa using hk (k+1) j (by simpa using hj)) s
theorem Zg {n:Nat} {σ:List Nat} {aos:List AOper} (hn:σ.Nodup) (hl:aos.length=σ.length) (hs: ∀i∈σ,i<n): ∀ (k i:Nat),σ[k]? =some i→(Qm n σ aos)[i]? =aos[k]? :=by
 intro k i hk
 obtain⟨hkl,rfl⟩:=List.getElem?_eq_some_iff.1 hk
 have hi:=hs _ (List.getElem_mem hkl)
 have e:σ.idxOf σ[k]=k:=hn.idxOf_getElem k hkl
 simp only[Qm,List.getElem?_map,List.getElem?_range hi,Option.map_some,e]
 rw[List.getD_eq_getElem?_getD,Cdh (by omega)]
 rfl
def B1h (P:Program) (ops:Array Oper) (nt:Nat) (a:AOper) (used:List Nat):Option Nat:=
 (List.range ops.size).find? fun i=> !used.contains i&& (match ops[i]? with|some o=>Xc P ops nt o a|none=>false)
def Bf3 (P:Program) (ops:Array Oper) (nt:Nat):List AOper→List Nat→Option (List Nat)
 | [],_=>some []
 |a::ags,used=>
  match B1h P ops nt a used with
  |some i=> (match Bf3 P ops nt ags (i::used) with|some r=>some (i::r) |none=>none)
  |none=>none
def Bfh (P:Program) (ops:Array Oper) (nt:Nat) (aos:List AOper):Bool:=
 match Bf3 P ops nt aos [] with
 |some σ=>Nat.beq aos.length σ.length&&Nat.ble σ.length ops.size&&K5 P ops nt ops.toList (Qm ops.size σ aos) &&Bk6 ops (Qm ops.size σ aos) [] σ&& (List.range ops.size).all (fun i=>σ.contains i)
 |none=>false
theorem Rel.drawn {st:St} {a:Act} {w:World} (h:Rel G Bd w0 O0 pl0 n0 nt st a w):Rel G Bd w0 O0 pl0 n0 nt st a { w with drawn:=w.drawn+1 } :=by
 obtain⟨⟨pl,h1,h2,h3,h4,h5,h6⟩,h7,h8⟩:=h
 obtain⟨m1,m2⟩:=h1.mono_all (w':= { w with drawn:=w.drawn+1 }) ⟨rfl,rfl,rfl,Nat.le_refl _,fun b _ _=> ⟨rfl,fun h=>h⟩⟩
 exact⟨⟨pl,m1,h2.mono m2 (PlExt.refl _ _) (Nat.le_refl _),h3.mono m2,h4.trans m2,h5,h6⟩,h7,h8⟩
theorem Bp4 (hm:P.follows .mixedOrders=true) (hcl:Fg P G cl) (hn0:N8 Bd B) {id:Nat} {ops:Array Oper} {draw:Bool} {aos:List AOper} (hc:K5 P ops nt ops.toList aos=true) (hord:draw=true→Bnn ops aos=true) {Q:Exit→Act→World→Prop}
  {st st':St} {a:Act} {w:World} (hR:Rel G Bd w0 O0 pl0 n0 nt st a w) (h:Lb cl G B aos st=some st') (hQ: ∀a' w',Rel G Bd w0 O0 pl0 n0 nt st' a' w'→Q .normal a' w'): (Code.region id ops draw).wp P Q a w:=by
 have Bc:ops.size=aos.length:=by simpa using(Km hc).1
 rw[Bhn,←Bc] at h
 cases draw with
 |false=>exact wp_region (Bbx hcl hn0 hc _ hR h hQ)
 |true=>
  refine wp_region_any hm ?_
  have hrest:Kj (Array.replicate ops.size false) ops.size=List.range ops.size:=by
   unfold Kj
   refine List.filter_eq_self.2 fun i hi=> ?_
   have:=List.mem_range.1 hi
   simp[this]
  refine Boi hcl hn0 hc (hord rfl) ops.size _ (by simp) (fun k o hk=> ?_) hR.drawn (by rw[hrest];exact h) (by rw[hrest];simp) hQ
  exfalso
  simp[Array.getElem?_replicate] at hk
  split at hk<;>simp at hk
theorem Blw (hm:P.follows .mixedOrders=true) (hcl:Fg P G cl) (hn0:N8 Bd B) {id:Nat} {ops:Array Oper} {aos:List AOper} (hc:Bfh P ops nt aos=true) {Q:Exit→Act→World→Prop}
  {st st':St} {a:Act} {w:World} (hR:Rel G Bd w0 O0 pl0 n0 nt st a w) (h:Lb cl G B aos st=some st') (hQ: ∀a' w',Rel G Bd w0 O0 pl0 n0 nt st' a' w'→Q .normal a' w'): (Code.region id ops true).wp P Q a w:=by
 unfold Bfh at hc
 split at hc
 ·rename_i σ _
  simp only[Cdv] at hc
  obtain⟨⟨⟨⟨h1,h0⟩,h2⟩,h3⟩,h4⟩:=hc
  have hl:=Cd6 h1
  have hle:=Nat.le_of_ble_eq_true h0
  have hall: ∀i,i<ops.size→i∈σ:=fun i hi=>by
   have:=Cdl.1 h4 i (List.mem_range.2 hi)
   simpa using this
  have hs: ∀i∈σ,i<ops.size:=fun i hi=>by
   obtain⟨m1,m2,em⟩:=List.append_of_mem hi
   exact(Uf h3 em).2.2.1
  rw[Bap hl (Zg (Wm h3).1 hl hs)] at h
  refine wp_region_any hm ?_
  have hrest:Dx σ (Array.replicate ops.size false)=σ:=by
   unfold Dx
   refine List.filter_eq_self.2 fun i hi=> ?_
   have:=hs i hi
   simp[this]
  refine Bj5 hcl hn0 h2 h3 hall ops.size _ (by simp) (fun k o hk=> ?_) hR.drawn (by rw[hrest];exact h) ?_ hQ
  ·exfalso
   simp[Array.getElem?_replicate] at hk
   split at hk<;>simp at hk
  ·rw[hrest];exact hle
 ·simp at hc
def Mq:AOpd→AOpd→Bool
 | .t n, .t m=>Nat.beq n m
 | .c (.int k n), .c (.int k' n')=>decide (k=k') &&decide (n=n')
 | .c (.str x), .c (.str y)=>decide (x=y)
 | .c (.bool x), .c (.bool y)=>decide (x=y)
 | .f k, .f j=>Nat.beq k j
 | .g k, .g j=>Nat.beq k j
 |_,_=>false
theorem Kv {x y:AOpd} (h:Mq x y=true):x=y:=by
 unfold Mq at h
 split at h<;>first| (simp at h;done) |skip
 ·rw[Cd6 h]
 ·rw[Cdv,decide_eq_true_eq,decide_eq_true_eq] at h;rw[h.1,h.2]
 ·rw[decide_eq_true_eq] at h;rw[h]
 ·rw[decide_eq_true_eq] at h;rw[h]
 ·rw[Cd6 h]
 ·rw[Cd6 h]
def Q0:List AOpd→List AOpd→Bool
 | [],[]=>true
 |x::xs,y::ys=>Mq x y&&Q0 xs ys
 |_,_=>false
theorem Z5: ∀ {x y:List AOpd},Q0 x y=true→x=y
 | [],[],_=>rfl
 | [],_::_,h=>by simp[Q0] at h
 |_::_,[],h=>by simp[Q0] at h
 |x::xs,y::ys,h=>by
  simp only[Q0,Cdv] at h
  rw[Kv h.1,Z5 h.2]
def Bay:Option AOpd→Option AOpd→Bool
 |none,none=>true
 |some x,some y=>Mq x y
 |_,_=>false
theorem Bcz {x y:Option AOpd} (h:Bay x y=true):x=y:=by
 cases x<;>cases y<;>first|rfl| (simp[Bay] at h;done) |rw[Kv h]
def Bl4:AOp→AOp→Bool
 | .load a n x, .load a' n' x'=>decide (a=a') &&Nat.beq n n'&&Mq x x'
 | .cvStr x, .cvStr y=>Mq x y
 | .slice e x l h, .slice e' x' l' h'=>decide (e=e') &&Mq x x'&&Bay l l'&&Bay h h'
 | .iaddr e x i, .iaddr e' x' i'=>Nat.beq e e'&&Mq x x'&&Mq i i'
 | .pcall f ags, .pcall f' ags'=>Mq f f'&&Q0 ags ags'
 |_,_=>false
theorem Bp6 {x y:AOp} (h:Bl4 x y=true):x=y:=by
 unfold Bl4 at h
 split at h<;>first| (simp at h;done) |skip
 ·rw[Cdv,Cdv,decide_eq_true_eq] at h;rw[h.1.1,Cd6 h.1.2,Kv h.2]
 ·rw[Kv h]
 ·rw[Cdv,Cdv,Cdv,decide_eq_true_eq] at h;rw[h.1.1.1,Kv h.1.1.2,Bcz h.1.2,Bcz h.2]
 ·rw[Cdv,Cdv] at h;rw[Cd6 h.1.1,Kv h.1.2,Kv h.2]
 ·rw[Cdv] at h;rw[Kv h.1,Z5 h.2]
def Bcy (x y:AOper):Bool:=decide (x.dst=y.dst) &&decide (x.guard=y.guard) &&Bl4 x.op y.op
theorem Bi7 {x y:AOper} (h:Bcy x y=true):x=y:=by
 obtain⟨a,b,c⟩:=x
 obtain⟨a',b',c'⟩:=y
 simp only[Bcy,Cdv,decide_eq_true_eq] at h
 rw[h.1.1,h.1.2,Bp6 h.2]
def Yg (o:AOper):Bool:= !(Mg o.op||Rs o.op)
def Na:List Nat→List (Bool×AOper)→List (Nat×AOper)
 |i::σ,(true,o)::L=> (i,o)::Na σ L
 |σ,(false,_)::L=>Na σ L
 |_,_=> []
def cw (X:List (Nat×AOper)):Nat:=X.countP fun p=>Yg p.2
def noW:List (Bool×AOper)→Bool
 | []=>true
 | (true,o)::L=> !Yg o&&noW L
 | (false,_)::L=>noW L
def Bkf (o:AOper):List (Bool×AOper)→Bool
 | (false,x)::L=>Bcy o x||Bkf o L
 |_=>false
def cks (ops:Array Oper) (i:Nat) (o:AOper):List Nat→List (Bool×AOper)→Bool
 |σ,(false,_)::L=>cks ops i o σ L
 |j::σ,(true,y)::L=>noW ((true,y)::L) || (Yg y&&Nn ops ops.size j i) || ((!Yg y||Bkf o L) && !(match y.dst with|some d=>o.uses.contains d|none=>false) &&cks ops i o σ L)
 |_,L=>noW L
def Pm (ops:Array Oper) (q p:Nat×AOper):Bool:=
 !(Nat.beq q.1 p.1) && (match p.2.dst with|some d=>decide (q.2.dst≠some d) |none=>true) &&
 (Nn ops ops.size p.1 q.1||
  (match q.2.dst with|some d=> !(p.2.uses.contains d) |none=>true) && (match p.2.dst with|some d=> !(q.2.uses.contains d) |none=>true) &&
  (Mg q.2.op||Mg p.2.op||Rs q.2.op))
def Uq (ops:Array Oper):List (Nat×AOper)→List Nat→List (Bool×AOper)→Bool
 |pre,σ,(false,_)::L=>Uq ops pre σ L
 |pre,i::σ,(true,o)::L=>
  Nat.blt i ops.size&& (match ops[i]? with|some q=>q.after.all (fun e=> !Region.binds .any e||pre.any (fun p=>Nat.beq p.1 e.on)) |none=>false) &&
  pre.all (fun q=>Pm ops q (i,o)) && (Mg o.op||Yg o|| (match o.dst with|some d=> !(o.uses.contains d) |none=>false) &&cks ops i o σ L) &&Uq ops ((i,o)::pre) σ L
 |_,[],[]=>true
 |_,_,_=>false
def B0m (P:Program) (ops:Array Oper) (nt:Nat) (L:List (Bool×AOper)):Bool:=
 let aos:=(L.filter (·.1)).map (·.2)
 match Bf3 P ops nt aos [] with
 |some σ=>Nat.beq aos.length σ.length&&K5 P ops nt ops.toList (Qm ops.size σ aos) &&Uq ops [] σ L&& (List.range ops.size).all (fun i=>σ.contains i)
 |none=>false
section
variable {cl:D6} {G:Gi} {n0:Bn}
noncomputable def hsX (cl:D6) (G:Gi) (n0:Bn):List (Bool×AOper)→St→Nat→Hp
 | [],s,_=>s.hp
 | (true,o)::L,s,k=>
  match Fa cl G n0 o s with
  |some s1=>if Yg o then(match k with|0=>s.hp|k+1=>hsX cl G n0 L s1 k) else hsX cl G n0 L s1 k
  |none=>s.hp
 | (false,_)::L,s,k=>hsX cl G n0 L s k
theorem Bbg {o:AOper} {L:List (Bool×AOper)} {s s':St} (h:evX cl G n0 ((true,o)::L) s=some s'): ∃s1,Fa cl G n0 o s=some s1∧evX cl G n0 L s1=some s':=by
 simp only[evX] at h
 split at h
 ·exact⟨_,by assumption,h⟩
 ·simp at h
theorem Ub {o:AOper} {L:List (Bool×AOper)} {s s':St} (h:evX cl G n0 ((false,o)::L) s=some s'): (∃s1,Fa cl G n0 o s=some s1∧Bmq o s s1)∧evX cl G n0 L s=some s':=by
 simp only[evX] at h
 split at h
 ·split at h
  ·exact⟨⟨_,by assumption,by assumption⟩,h⟩
  ·simp at h
 ·simp at h
theorem B7i {o:AOper} (hw:Yg o=false) {s s1:St} (h:Fa cl G n0 o s=some s1):s1.hp=s.hp:=by
 obtain⟨v,H,ha,rfl⟩:=Gy h
 simp only[Yg,Bool.not_eq_false',Cdz] at hw
 rcases hw with hp|hp
 ·exact(Wx hp ha).1
 ·exact(Sd hp ha).1
theorem Bbu: ∀ (L:List (Bool×AOper)) {s s':St},evX cl G n0 L s=some s'→hsX cl G n0 L s 0=s.hp
 | [],_,_,_=>rfl
 | (true,o)::L,s,s',h=>by
  obtain⟨s1,h1,h2⟩:=Bbg h
  simp only[hsX,h1]
  cases hw:Yg o with
  |true=>rfl
  |false=>simp only[Cdw,if_false];rw[Bbu L h2,B7i hw h1]
 | (false,o)::L,s,s',h=>Bbu L (Ub h).2
theorem Beg {o:AOper} {L:List (Bool×AOper)} {s s1:St} (h1:Fa cl G n0 o s=some s1) (hw:Yg o=true) (k:Nat):hsX cl G n0 ((true,o)::L) s (k+1)=hsX cl G n0 L s1 k:=by simp only[hsX,h1,hw,if_true]
theorem Bef {o:AOper} {L:List (Bool×AOper)} {s s1:St} (h1:Fa cl G n0 o s=some s1) (hw:Yg o=false) (k:Nat):hsX cl G n0 ((true,o)::L) s k=hsX cl G n0 L s1 k:=by simp only[hsX,h1,hw];rfl
theorem Bk3: ∀ (L:List (Bool×AOper)) (σ:List Nat),noW L=true→cw (Na σ L)=0
 | [],[],_=>rfl
 | [],_::_,_=>rfl
 | (false,x)::L,σ,h=>by
  have:Na σ ((false,x)::L)=Na σ L:=by cases σ<;>rfl
  rw[this];exact Bk3 L σ h
 | (true,o)::L,[],_=>rfl
 | (true,o)::L,i::σ,h=>by
  simp only[noW,Cdv,Cdy] at h
  simp only[Na,cw,List.countP_cons,h.1]
  exact Bk3 L σ h.2
theorem Yu {σ:List Nat} {o:AOper} {L:List (Bool×AOper)} :Na σ ((false,o)::L)=Na σ L:=by cases σ<;>rfl
theorem Xd {p:Nat×AOper} {X:List (Nat×AOper)} (h:Yg p.2=true):cw (p::X)=cw X+1:=by simp[cw,h]
theorem Yp {p:Nat×AOper} {X:List (Nat×AOper)} (h:Yg p.2=false):cw (p::X)=cw X:=by simp[cw,h]
theorem Bm7 {o:AOper} : ∀ {L:List (Bool×AOper)} {s s':St},evX cl G n0 L s=some s'→Bkf o L=true→∃s1,Fa cl G n0 o s=some s1∧Bmq o s s1
 | [],_,_,_,h=>by simp[Bkf] at h
 | (true,_)::_,_,_,_,h=>by simp[Bkf] at h
 | (false,x)::L,s,s',he,h=>by
  obtain⟨h1,h2⟩:=Ub he
  simp only[Bkf,Cdz] at h
  rcases h with h|h
  ·rw[Bi7 h];exact h1
  ·exact Bm7 h2 h
theorem Bkg {ops:Array Oper} {i:Nat} {o:AOper} {d:Nat} (hd:o.dst=some d) {v:V} : ∀ (L:List (Bool×AOper)) (σ:List Nat) {s s':St},evX cl G n0 L s=some s'→cks ops i o σ L=true→s.env.get d=v→(∀q∈Na σ L,q.2.dst≠some d)→
  ∀ (E:Env),(∀t∈o.uses,E.get t=s.env.get t)→∀k,1≤k→k≤cw (Na σ L)→(∀Y w Z,Na σ L=Y++w::Z→Yg w.2=true→cw Y<k→Nn ops ops.size w.1 i=false)→Jm cl G n0 o E (hsX cl G n0 L s k)=some (v,hsX cl G n0 L s k)
 | [],σ,s,s',he,hc,hv,hq,E,hE,k,h1,hk,hr=>by
  have:cw (Na σ [])=0:=by cases σ<;>rfl
  omega
 | (false,x)::L,σ,s,s',he,hc,hv,hq,E,hE,k,h1,hk,hr=>by
  rw[Yu] at hq hk hr
  have hc':cks ops i o σ L=true:=by cases σ<;>simpa only[cks] using hc
  exact Bkg hd L σ (Ub he).2 hc' hv hq E hE k h1 hk hr
 | (true,y)::L,[],s,s',he,hc,hv,hq,E,hE,k,h1,hk,hr=>by
  simp[Na,cw] at hk;omega
 | (true,y)::L,j::σ,s,s',he,hc,hv,hq,E,hE,k,h1,hk,hr=>by
  obtain⟨s1,e1,e2⟩:=Bbg he
  simp only[cks,Cdz,Cdv] at hc
  rcases hc with(hc|hc) |hc
  ·rw[Bk3 _ (j::σ) hc] at hk;omega
  ·have:=hr [] (j,y) (Na σ L) rfl hc.1 (show(0:Nat)<k from h1)
   rw[hc.2] at this;cases this
  ·obtain⟨⟨c1,c2⟩,c3⟩:=hc
   have hyd:y.dst≠some d:=hq (j,y) (by simp[Na])
   have huse: ∀t∈o.uses,s1.env.get t=s.env.get t:=fun t ht=>by
    obtain⟨u,Hu,_,rfl⟩:=Gy e1
    simp only[Fy]
    split
    ·rename_i hy
     simp[hy] at c2
     exact absurd ht c2
    ·rfl
   have hdv:s1.env.get d=v:=by
    obtain⟨u,Hu,_,rfl⟩:=Gy e1
    simp only[Fy,if_neg hyd]
    exact hv
   have ih:=Bkg hd L σ e2 c3 hdv (fun q hq'=>hq q (by simp[Na,hq'])) E (fun t ht=> (hE t ht).trans (huse t ht).symm)
   cases hw:Yg y with
   |true=>
    obtain⟨k,rfl⟩: ∃k',k=k'+1:=⟨k - 1,by omega⟩
    rw[Beg e1 hw]
    simp only[Na,Xd (p:=(j,y)) hw] at hk
    cases k with
    |zero=>
     rw[Bbu L e2]
     have c1:Bkf o L=true:=by simpa[hw] using c1
     obtain⟨s2,g1,g2⟩:=Bm7 e2 c1
     obtain⟨u,Hu,g3,rfl⟩:=Gy g1
     simp only[Bmq,hd,Fy,if_true] at g2
     obtain⟨rfl,g4⟩:=g2
     rw[Tz (e':=s1.env) (fun t ht=> (hE t ht).trans (huse t ht).symm),g3,g4,hdv]
    |succ k=>
     exact ih (k+1) (by omega) (by omega) fun Y w Z hX hw' hY=>hr ((j,y)::Y) w Z (by simp[Na,hX]) hw' (by rw[Xd (p:=(j,y)) hw];omega)
   |false=>
    rw[Bef e1 hw]
    simp only[Na,Yp (p:=(j,y)) hw] at hk
    exact ih k h1 hk fun Y w Z hX hw' hY=>hr ((j,y)::Y) w Z (by simp[Na,hX]) hw' (by rw[Yp (p:=(j,y)) hw];omega)
def Bzk (cl:D6) (G:Gi) (n0:Bn) (ops:Array Oper) (X:List (Nat×AOper)) (hs:Nat→Hp) (e0 eF:Env):Prop:=
 ∀X1 p X2,X=X1++p::X2→∀E:Env,(∀t∈p.2.uses,((∃q∈X1,q.2.dst=some t)→E.get t=eF.get t)∧((∀q∈X1,q.2.dst≠some t)→E.get t=e0.get t))→
  (Mg p.2.op=true→∀H,∃v,Jm cl G n0 p.2 E H=some (v,H)∧∀d,p.2.dst=some d→v=eF.get d)∧
  (Mg p.2.op=false→Yg p.2=false→∀k,cw X1≤k→k≤cw X→(∀Y w Z,X=Y++w::Z→Yg w.2=true→cw X1≤cw Y→cw Y<k→Nn ops ops.size w.1 p.1=false)→
   ∃v,Jm cl G n0 p.2 E (hs k)=some (v,hs k)∧∀d,p.2.dst=some d→v=eF.get d)∧
  (Yg p.2=true→∃v,Jm cl G n0 p.2 E (hs (cw X1))=some (v,hs (cw X1+1))∧∀d,p.2.dst=some d→v=eF.get d)
theorem Rw {ops:Array Oper} : ∀ (L:List (Bool×AOper)) (σ:List Nat) (pre:List (Nat×AOper)),Uq ops pre σ L=true→(Na σ L).Pairwise (fun q p=>Pm ops q p=true)∧(∀q∈pre,∀p∈Na σ L,Pm ops q p=true)∧
  (∀X1 p X2,Na σ L=X1++p::X2→p.1<ops.size∧∀o,ops[p.1]? =some o→∀e∈o.after,Region.binds .any e=true→(∃q∈pre,q.1=e.on)∨∃q∈X1,q.1=e.on)∧
  (Na σ L).map (·.1)=σ∧(Na σ L).map (·.2)=(L.filter (·.1)).map (·.2)
 | [],[],pre,h=> ⟨List.Pairwise.nil,fun _ _ _ hp=>by simp[Na] at hp,fun X1 p X2 h=>by simp[Na] at h,rfl,rfl⟩
 | [],_::_,pre,h=>by simp[Uq] at h
 | (false,x)::L,σ,pre,h=>by
  have h':Uq ops pre σ L=true:=by cases σ<;>simpa only[Uq] using h
  obtain⟨a,b,c,d,e⟩:=Rw L σ pre h'
  rw[Yu]
  exact⟨a,b,c,d,by simpa using e⟩
 | (true,o)::L,[],pre,h=>by simp[Uq] at h
 | (true,o)::L,i::σ,pre,h=>by
  simp only[Uq,Cdv] at h
  obtain⟨⟨⟨⟨h1,h2⟩,h3⟩,h4⟩,h5⟩:=h
  obtain⟨a,b,c,d,e⟩:=Rw L σ ((i,o)::pre) h5
  refine⟨List.pairwise_cons.2 ⟨fun p hp=>b (i,o) (by simp) p hp,a⟩,fun q hq p hp=> ?_,fun X1 p X2 hX=> ?_,by simp[Na,d],by simp[Na,e]⟩
  ·rcases Cdj.1 hp with rfl|hp
   ·exact Cdl.1 h3 q hq
   ·exact b q (by simp[hq]) p hp
  ·cases X1 with
   |nil=>
    simp only[Na,List.nil_append,List.cons.injEq] at hX
    obtain⟨rfl,rfl⟩:=hX
    refine⟨Ba7 h1,fun q hq ed hed hb=> .inl ?_⟩
    simp only[hq] at h2
    have:=Array.all_eq_true_iff_forall_mem.1 h2 ed hed
    simp only[hb,Bool.not_true,Bool.false_or,List.any_eq_true] at this
    obtain⟨r,hr,hr2⟩:=this
    exact⟨r,hr,Cd6 hr2⟩
   |cons x X1=>
    simp only[Na,List.cons_append,List.cons.injEq] at hX
    obtain⟨rfl,hX⟩:=hX
    obtain⟨c1,c2⟩:=c X1 p X2 hX
    refine⟨c1,fun q hq ed hed hb=> ?_⟩
    rcases c2 q hq ed hed hb with⟨r,hr,e⟩ | ⟨r,hr,e⟩
    ·rcases Cdj.1 hr with rfl|hr
     ·exact .inr ⟨_,by simp,e⟩
     ·exact .inl ⟨r,hr,e⟩
    ·exact .inr ⟨r,by simp[hr],e⟩
theorem Bpt {ops:Array Oper} {q p:Nat×AOper} (h:Pm ops q p=true) {d:Nat} (hp:p.2.dst=some d):q.2.dst≠some d:=by
 simp only[Pm,Cdv] at h
 have:=h.1.2
 simpa[hp] using this
theorem Zb {ops:Array Oper} : ∀ (L:List (Bool×AOper)) (σ:List Nat) (pre:List (Nat×AOper)) {s s':St},evX cl G n0 L s=some s'→Uq ops pre σ L=true→
  Bzk cl G n0 ops (Na σ L) (hsX cl G n0 L s) s.env s'.env∧(∀t,(∀q∈Na σ L,q.2.dst≠some t)→s'.env.get t=s.env.get t)∧hsX cl G n0 L s (cw (Na σ L))=s'.hp
 | [],[],pre,s,s',he,h=>by
  simp only[evX,Cdt] at he;subst he
  exact⟨fun X1 p X2 hX=>by simp[Na] at hX,fun _ _=>rfl,rfl⟩
 | [],_::_,pre,s,s',he,h=>by simp[Uq] at h
 | (false,x)::L,σ,pre,s,s',he,h=>by
  have h':Uq ops pre σ L=true:=by cases σ<;>simpa only[Uq] using h
  rw[Yu]
  exact Zb L σ pre (Ub he).2 h'
 | (true,o)::L,[],pre,s,s',he,h=>by simp[Uq] at h
 | (true,o)::L,i::σ,pre,s,s',he,h=>by
  have hp:=Rw _ _ _ h
  simp only[Uq,Cdv] at h
  obtain⟨⟨_,h4⟩,h5⟩:=h
  obtain⟨s1,e1,e2⟩:=Bbg he
  obtain⟨hf,henv,hhp⟩:=Zb L σ _ e2 h5
  obtain⟨v,H1,ha,es1⟩:=Gy e1
  have g1: ∀t,o.dst≠some t→s1.env.get t=s.env.get t:=fun t ht=>by rw[es1];simp only[Fy,if_neg ht]
  have g2: ∀d,o.dst=some d→s1.env.get d=v:=fun d hd=>by rw[es1];simp only[Fy,hd,if_true]
  have hpw:=List.pairwise_cons.1 hp.1
  have g3: ∀d,o.dst=some d→∀q∈Na σ L,q.2.dst≠some d:=fun d hd q hq hqd=>Bpt (hpw.1 q hq) hqd hd
  have g4: ∀d,o.dst=some d→v=s'.env.get d:=fun d hd=>by rw[henv d (g3 d hd),g2 d hd]
  refine⟨fun X1 p X2 hX E hE=> ?_,fun t ht=> ?_, ?_⟩
  ·cases X1 with
   |nil=>
    simp only[Na,List.nil_append,List.cons.injEq] at hX
    obtain⟨rfl,rfl⟩:=hX
    have hE': ∀t∈o.uses,E.get t=s.env.get t:=fun t ht=> (hE t ht).2 (by simp)
    have ha':Jm cl G n0 o E s.hp=some (v,H1):=by rw[Tz hE'];exact ha
    refine⟨fun hpu H=> ⟨v,(Wx hpu ha').2 H,g4⟩,fun hnp hw k _ hk hr=> ?_,fun hw=> ?_⟩
    ·have hrd:Rs o.op=true:=by simpa[Yg,hnp] using hw
     have hH1:=(Sd hrd ha').1
     subst hH1
     cases k with
     |zero=>rw[Bbu _ he];exact⟨v,ha',g4⟩
     |succ k=>
      simp only[hnp,hw,Cdw,Bool.or_self,false_or,Cdz,Cdv] at h4
      obtain⟨h4,h6⟩:=h4
      cases hd:o.dst with
      |none=>simp[hd] at h4
      |some d=>
       simp only[hd] at h4
       have hdu:d ∉ o.uses:=by simpa using h4
       rw[Bef e1 hw]
       have hkk:k+1≤cw (Na σ L):=by simpa only[Na,Yp (p:=(i,o)) hw] using hk
       refine⟨v,Bkg hd L σ e2 h6 (g2 d hd) (g3 d hd) E (fun t ht=> ?_) (k+1) (by omega) hkk fun Y w Z hX hw' hY=> ?_,fun d' hd'=>g4 d' (by rw[hd,hd'])⟩
       ·rw[hE' t ht,g1 t (fun hc=>hdu (by rw[hd] at hc;simp only[Cdt] at hc;rw[hc];exact ht))]
       ·exact hr ((i,o)::Y) w Z (by simp[Na,hX]) hw' (Nat.zero_le _) (by rw[Yp (p:=(i,o)) hw];exact hY)
    ·refine⟨v, ?_,g4⟩
     have c0:cw ([]:List (Nat×AOper))=0:=rfl
     rw[c0,Bbu _ he,Nat.zero_add,Beg (k:=0) e1 hw,Bbu L e2,ha',es1]
   |cons x X1=>
    simp only[Na,List.cons_append,List.cons.injEq] at hX
    obtain⟨rfl,hX⟩:=hX
    have hE': ∀t∈p.2.uses,((∃q∈X1,q.2.dst=some t)→E.get t=s'.env.get t)∧((∀q∈X1,q.2.dst≠some t)→E.get t=s1.env.get t):=fun t ht=>by
     refine⟨fun ⟨q,hq,hqd⟩=> (hE t ht).1 ⟨q,by simp[hq],hqd⟩,fun hn=> ?_⟩
     by_cases hd:o.dst=some t
     ·rw[(hE t ht).1 ⟨(i,o),by simp,hd⟩,henv t (g3 t hd)]
     ·rw[(hE t ht).2 (fun q hq=>by rcases Cdj.1 hq with rfl|hq;exact hd;exact hn q hq),g1 t hd]
    obtain⟨f1,f2,f3⟩:=hf X1 p X2 hX E hE'
    cases hw:Yg o with
    |true=>
     refine⟨f1,fun hnp hnw k hk1 hk2 hr=> ?_,fun hpw=> ?_⟩
     ·rw[Xd (p:=(i,o)) hw] at hk1
      obtain⟨k,rfl⟩: ∃k',k=k'+1:=⟨k - 1,by omega⟩
      rw[Beg e1 hw]
      simp only[Na,Xd (p:=(i,o)) hw] at hk2
      exact f2 hnp hnw k (by omega) (by omega) fun Y w Z hY hw' h1 h2=>hr ((i,o)::Y) w Z (by simp[Na,hY]) hw' (by rw[Xd (p:=(i,o)) hw,Xd (p:=(i,o)) hw];omega) (by rw[Xd (p:=(i,o)) hw];omega)
     ·rw[Xd (p:=(i,o)) hw,Beg e1 hw,Beg e1 hw]
      exact f3 hpw
    |false=>
     refine⟨f1,fun hnp hnw k hk1 hk2 hr=> ?_,fun hpw=> ?_⟩
     ·rw[Yp (p:=(i,o)) hw] at hk1
      rw[Bef e1 hw]
      simp only[Na,Yp (p:=(i,o)) hw] at hk2
      exact f2 hnp hnw k hk1 hk2 fun Y w Z hY hw' h1 h2=>hr ((i,o)::Y) w Z (by simp[Na,hY]) hw' (by rw[Yp (p:=(i,o)) hw,Yp (p:=(i,o)) hw];exact h1) (by rw[Yp (p:=(i,o)) hw];exact h2)
     ·rw[Yp (p:=(i,o)) hw,Bef e1 hw,Bef e1 hw]
      exact f3 hpw
  ·rw[henv t (fun q hq=>ht q (by simp[Na,hq])),g1 t (ht (i,o) (by simp[Na]))]
  ·cases hw:Yg o with
   |true=>simp only[Na,Xd (p:=(i,o)) hw];rw[Beg e1 hw];exact hhp
   |false=>simp only[Na,Yp (p:=(i,o)) hw];rw[Bef e1 hw];exact hhp
theorem Be7 {α:Type} {p w:α} : ∀ {X1 X2 Y Z:List α},X1++p::X2=Y++w::Z→(X1=Y∧p=w)∨(∃M,Y=X1++p::M)∨∃M,X1=Y++w::M
 | [],X2,[],Z,h=>by simp at h;exact .inl ⟨rfl,h.1⟩
 | [],X2,y::Y,Z,h=>by simp at h;exact .inr (.inl ⟨Y,by simp[h.1]⟩)
 |x::X1,X2,[],Z,h=>by simp at h;exact .inr (.inr ⟨X1,by simp[h.1]⟩)
 |x::X1,X2,y::Y,Z,h=>by
  simp only[List.cons_append,List.cons.injEq] at h
  obtain⟨rfl,h⟩:=h
  rcases Be7 h with⟨rfl,rfl⟩ | ⟨M,rfl⟩ | ⟨M,rfl⟩
  ·exact .inl ⟨rfl,rfl⟩
  ·exact .inr (.inl ⟨M,rfl⟩)
  ·exact .inr (.inr ⟨M,rfl⟩)
theorem Xe: ∀ {X:List (Nat×AOper)} {k:Nat},k<cw X→∃Y w Z,X=Y++w::Z∧Yg w.2=true∧cw Y=k
 | [],k,h=>by simp[cw] at h
 |p::X,k,h=>by
  cases hw:Yg p.2 with
  |true=>
   cases k with
   |zero=>exact⟨[],p,X,rfl,hw,rfl⟩
   |succ k=>
    rw[Xd hw] at h
    obtain⟨Y,w,Z,rfl,h1,h2⟩:=Xe (X:=X) (k:=k) (by omega)
    exact⟨p::Y,w,Z,rfl,h1,by rw[Xd hw,h2]⟩
  |false=>
   rw[Yp hw] at h
   obtain⟨Y,w,Z,rfl,h1,h2⟩:=Xe (X:=X) (k:=k) h
   exact⟨p::Y,w,Z,rfl,h1,by rw[Yp hw,h2]⟩
theorem Beb {α:Type} {f:α→Bool} : ∀ {X:List α} {p:α},p∈X→f p=false→∃X1 q X2,X=X1++q::X2∧(∀r∈X1,f r=true)∧f q=false
 | [],_,h,_=>by simp at h
 |x::X,p,h,hp=>by
  cases hx:f x with
  |false=>exact⟨[],x,X,rfl,by simp,hx⟩
  |true=>
   rcases Cdj.1 h with rfl|h
   ·rw[hx] at hp;cases hp
   ·obtain⟨X1,q,X2,rfl,h1,h2⟩:=Beb h hp
    exact⟨x::X1,q,X2,rfl,fun r hr=>by rcases Cdj.1 hr with rfl|hr;exact hx;exact h1 r hr,h2⟩
theorem Yq (X Y:List (Nat×AOper)):cw (X++Y)=cw X+cw Y:=by simp[cw]
end
structure InvX (X:List (Nat×AOper)) (hs:Nat→Hp) (e0 eF:Env) (listed:Array Bool) (st:St):Prop where
 e1: ∀p∈X,listed.getD p.1 false=true→∀t,p.2.dst=some t→st.env.get t=eF.get t
 e2: ∀t,(∀p∈X,listed.getD p.1 false=true→p.2.dst≠some t)→st.env.get t=e0.get t
 hp: ∃k,k≤cw X∧st.hp=hs k∧∀Y w Z,X=Y++w::Z→Yg w.2=true→(listed.getD w.1 false=true↔cw Y<k)
theorem Bj6 (hcl:Fg P G cl) (hn0:N8 Bd B) {ops:Array Oper} {u:List AOper} (hc:K5 P ops nt ops.toList u=true) {X:List (Nat×AOper)} {hs:Nat→Hp} {s':St} {e0:Env}
  (hX: ∀p∈X,u[p.1]? =some p.2) (hall: ∀i,i<ops.size→∃p∈X,p.1=i) (hpair:X.Pairwise fun q p=>Pm ops q p=true) (hfact:Bzk cl G B ops X hs e0 s'.env)
  (htop: ∀X1 p X2,X=X1++p::X2→p.1<ops.size∧∀o,ops[p.1]? =some o→∀e∈o.after,Region.binds .any e=true→∃q∈X1,q.1=e.on)
  (hh:hs (cw X)=s'.hp) (hen: ∀t,(∀q∈X,q.2.dst≠some t)→s'.env.get t=e0.get t) {Q:Exit→Act→World→Prop} (hQ: ∀a' w',Rel G Bd w0 O0 pl0 n0 nt s' a' w'→Q .normal a' w'):
  ∀ (fuel:Nat) (listed:Array Bool) {st:St} {a:Act} {w:World},listed.size=ops.size→Bfa ops listed→Rel G Bd w0 O0 pl0 n0 nt st a w→InvX X hs e0 s'.env listed st→(Kj listed ops.size).length≤fuel→wpAny P .any ops Q fuel listed a w:=by
 obtain⟨hl,Cc⟩:=Km hc
 have hin: ∀p∈X,p.1<ops.size:=fun p hp=>by
  obtain⟨X1,X2,rfl⟩:=List.append_of_mem hp
  exact(htop X1 p X2 rfl).1
 have hready: ∀listed:Array Bool,listed.size=ops.size→Region.ready .any ops listed=[]→∀p∈X,listed.getD p.1 false=true:=by
  intro listed hs hr p hp
  cases hb:listed.getD p.1 false with
  |true=>rfl
  |false=>
   exfalso
   obtain⟨X1,q,X2,rfl,h1,h2⟩:=Beb (f:=fun p=>listed.getD p.1 false) hp hb
   obtain⟨hq1,hq2⟩:=htop X1 q X2 rfl
   have:q.1∈Region.ready .any ops listed:=by
    rw[mem_ready]
    refine⟨?_,ops[q.1],Cd5 hq1,fun e he hb=> ?_⟩
    ·have hqs:q.1<listed.size:=by omega
     simp only[Cd3,Cd5 hqs,Cdu] at h2⊢
     exact h2
    ·obtain⟨r,hr,e⟩:=hq2 _ (Cd5 hq1) e he hb
     rw[←e];exact h1 r hr
   rw[hr] at this
   cases this
 have hdone: ∀ (listed:Array Bool) {st:St} {a:Act} {w:World},(∀p∈X,listed.getD p.1 false=true)→Rel G Bd w0 O0 pl0 n0 nt st a w→InvX X hs e0 s'.env listed st→Q .normal a w:=by
  intro listed st a w hall' hR hI
  refine hQ a w (hR.congr ⟨?_,fun t=> ?_⟩)
  ·obtain⟨k,hk,e,hk2⟩:=hI.hp
   rw[e,←hh]
   by_cases hlt:k<cw X
   ·obtain⟨Y,y,Z,hY,hw,hc⟩:=Xe hlt
    have:=(hk2 Y y Z hY hw).1 (hall' y (by rw[hY];simp))
    omega
   ·rw[show k=cw X by omega]
  ·by_cases hex: ∃q∈X,q.2.dst=some t
   ·obtain⟨q,hq,hqd⟩:=hex
    exact hI.e1 q hq (hall' q hq) t hqd
   ·have hn: ∀q∈X,q.2.dst≠some t:=fun q hq hqd=>hex ⟨q,hq,hqd⟩
    rw[hI.e2 t (fun q hq _=>hn q hq),hen t hn]
 intro fuel
 induction fuel with
 |zero=>
  intro listed st a w hsz hd hR hI hf
  have hr:Kj listed ops.size=[]:=Cdk (by omega)
  have hal: ∀p∈X,listed.getD p.1 false=true:=fun p hp=>by
   cases hb:listed.getD p.1 true with
   |true=>exact Mk (by rw[hsz];exact hin p hp) hb
   |false=>
    exfalso
    have:p.1∈Kj listed ops.size:=by
     unfold Kj
     rw[List.mem_filter]
     exact⟨List.mem_range.2 (hin p hp),by simp only[hb];rfl⟩
    rw[hr] at this;cases this
  refine⟨?_,hdone listed hal hR hI⟩
  unfold Region.ready
  rw[List.filter_eq_nil_iff]
  intro i hi hh2
  have:i∈Kj listed ops.size:=by
   unfold Kj
   rw[List.mem_filter]
   simp only[Cdv] at hh2
   exact⟨hi,hh2.1⟩
  rw[hr] at this
  cases this
 |succ fuel ih=>
  intro listed st a w hsz hd hR hI hf
  refine⟨fun hemp=>hdone listed (hready listed hsz hemp) hR hI,fun i hi=> ?_⟩
  obtain⟨hun,o,ho,hpre⟩:=mem_ready.1 hi
  have hii:=(Cd4.1 ho).1
  obtain⟨ao,hao,hck⟩:=Cc i o (by simpa using ho)
  obtain⟨p,hp,rfl⟩:=hall i hii
  have hp2:=hX p hp
  rw[hao] at hp2
  simp only[Cdt] at hp2;subst hp2
  obtain⟨X1,X2,hsplit⟩:=List.append_of_mem hp
  have hunl:listed.getD p.1 false≠true:=by
   have hqs:p.1<listed.size:=by omega
   simp only[Cd3,Cd5 hqs,Cdu] at hun⊢
   rw[hun];simp
  have hbefore: ∀q,Nn ops ops.size p.1 q=true→listed.getD q false=true:=fun q hq=>Ky hd _ p.1 q (fun o' ho' e he hb=>by
   rw[ho] at ho'
   simp only[Cdt] at ho';subst ho'
   exact hpre e he hb) hq
  have hafter: ∀q,listed.getD q false=true→Nn ops ops.size q p.1=false:=fun q hq=>by
   cases hb:Nn ops ops.size q p.1 with
   |false=>rfl
   |true=>exact absurd (Ky hd _ q p.1 (fun o' ho' e he hb'=>hd q o' hq ho' e he hb') hb) hunl
  rw[hsplit] at hpair
  obtain⟨hpw1,hpw2,hpw3⟩:=List.pairwise_append.1 hpair
  have hq1: ∀q∈X1,Pm ops q p=true:=fun q hq=>hpw3 q hq p (by simp)
  have hq2: ∀q∈X2,Pm ops p q=true:=fun q hq=> (List.pairwise_cons.1 hpw2).1 q hq
  have hag: ∀t∈p.2.uses,((∃q∈X1,q.2.dst=some t)→st.env.get t=s'.env.get t)∧((∀q∈X1,q.2.dst≠some t)→st.env.get t=e0.get t):=by
   intro t ht
   refine⟨fun ⟨q,hq,hqd⟩=> ?_,fun hn=>hI.e2 t fun q hq hql hqd=> ?_⟩
   ·have:=hq1 q hq
    simp only[Pm,Cdv,Cdz] at this
    rcases this.2 with h|h
    ·exact hI.e1 q (by rw[hsplit];simp[hq]) (hbefore _ h) t hqd
    ·have h1:=h.1.1
     simp[hqd] at h1
     exact absurd ht h1
   ·rw[hsplit] at hq
    rcases List.mem_append.1 hq with h|h
    ·exact hn q h hqd
    ·rcases Cdj.1 h with rfl|h
     ·exact hunl hql
     ·have:=hq2 q h
      simp only[Pm,Cdv,Cdz] at this
      rcases this.2 with h3|h3
      ·rw[hafter _ hql] at h3;cases h3
      ·have h1:=h3.1.2
       simp[hqd] at h1
       exact absurd ht h1
  obtain⟨f1,f2,f3⟩:=hfact X1 p X2 hsplit st.env hag
  obtain⟨k,hk,hhp,hkw⟩:=hI.hp
  have hsame: ∀q∈X,q.1=p.1→q=p:=fun q hq he=>by
   have h1:=hX q hq
   rw[he,hao] at h1
   simp only[Cdt] at h1
   exact Prod.ext he h1.symm
  have hge:Mg p.2.op=false→cw X1≤k:=by
   intro hnp
   apply Classical.byContradiction
   intro hlt
   obtain⟨Y,y,Z,hY,hw,hc⟩:=Xe (X:=X1) (k:=k) (by omega)
   have hpy:=hq1 y (by rw[hY];simp)
   simp only[Pm,Cdv,Cdz] at hpy
   rcases hpy.2 with h|h
   ·have:=(hkw Y y (Z++p::X2) (by rw[hsplit,hY];simp) hw).1 (hbefore _ h)
    omega
   ·simp only[Yg,Cdy,Bool.or_eq_false_iff] at hw
    rw[hw.1,hw.2,hnp] at h
    simp at h
  have main: ∀ (v:V) (H':Hp),Jm cl G B p.2 st.env st.hp=some (v,H')→(∀d,p.2.dst=some d→v=s'.env.get d)→
    (∃k',k'≤cw X∧H'=hs k'∧∀Y y Z,X=Y++y::Z→Yg y.2=true→((listed.setIfInBounds p.1 true).getD y.1 false=true↔cw Y<k'))→wpOp P ops Q p.1 (fun a w=>wpAny P .any ops Q fuel (listed.setIfInBounds p.1 true) a w) a w:=by
   intro v H' hact hv hk'
   have Bw: ∀q∈X,(listed.setIfInBounds p.1 true).getD q.1 false=true→q=p∨listed.getD q.1 false=true:=fun q hq hql=>by
    by_cases hqp:q.1=p.1
    ·exact .inl (hsame q hq hqp)
    ·rw[getD_set_ne false (Ne.symm hqp)] at hql
     exact .inr hql
   refine P8 hcl hn0 ho hck hR (Qq hact) fun a' w' hR'=>ih _ (by simpa using hsz) ?_ hR' ⟨fun q hq hql t hqt=> ?_,fun t hn=> ?_,hk'⟩ ?_
   ·intro j oj hj hoj e he hb
    by_cases hki:j=p.1
    ·subst hki
     rw[ho] at hoj
     simp only[Cdt] at hoj;subst hoj
     exact getD_set_true (hpre e he hb)
    ·rw[getD_set_ne false (Ne.symm hki)] at hj
     exact getD_set_true (hd j oj hj hoj e he hb)
   ·simp only[Fy]
    split
    ·rename_i hpt
     exact hv t hpt
    ·rename_i hpt
     rcases Bw q hq hql with rfl|h
     ·exact absurd hqt hpt
     ·exact hI.e1 q hq h t hqt
   ·have hpt:p.2.dst≠some t:=hn p hp (by
     have hqs:p.1<listed.size:=by omega
     simp[hqs])
    simp only[Fy,if_neg hpt]
    exact hI.e2 t fun q hq hql=>hn q hq (getD_set_true hql)
   ·have h1:Kj (listed.setIfInBounds p.1 true) ops.size=(Kj listed ops.size).filter (fun k=>k !=p.1):=by
     unfold Kj
     rw[List.filter_filter]
     refine List.filter_congr fun k hk=> ?_
     by_cases hki:k=p.1
     ·subst hki
      simp[hsz,hii]
     ·rw[getD_set_ne true (Ne.symm hki)]
      simp[hki]
    have hmem:p.1∈Kj listed ops.size:=by
     unfold Kj
     rw[List.mem_filter]
     exact⟨List.mem_range.2 hii,by simp only[hun];rfl⟩
    have hlt: ((Kj listed ops.size).filter (fun k=>k !=p.1)).length< (Kj listed ops.size).length:=by
     refine Nat.lt_of_le_of_ne (List.length_filter_le _ _) fun he=> ?_
     have:=(List.length_filter_eq_length_iff.1 he) p.1 hmem
     simp at this
    rw[h1];omega
  cases hpu:Mg p.2.op with
  |true=>
   obtain⟨v,hv,hvd⟩:=f1 hpu st.hp
   refine main v st.hp hv hvd ⟨k,hk,hhp,fun Y y Z hY hw=> ?_⟩
   have hne:y.1≠p.1:=fun he=>by
    have:=hsame y (by rw[hY];simp) he
    subst this
    simp[Yg,hpu] at hw
   rw[getD_set_ne false (Ne.symm hne)]
   exact hkw Y y Z hY hw
  |false=>
   cases hw:Yg p.2 with
   |false=>
    obtain⟨v,hv,hvd⟩:=f2 hpu hw k (hge hpu) hk fun Y y Z hY hyw h1 h2=>hafter _ ((hkw Y y Z hY hyw).2 h2)
    rw[←hhp] at hv
    refine main v st.hp hv hvd ⟨k,hk,hhp,fun Y y Z hY hyw=> ?_⟩
    have hne:y.1≠p.1:=fun he=>by
     have:=hsame y (by rw[hY];simp) he
     subst this
     rw[hw] at hyw;cases hyw
    rw[getD_set_ne false (Ne.symm hne)]
    exact hkw Y y Z hY hyw
   |true=>
    have hkk:k=cw X1:=by
     have h1:=hge hpu
     by_cases h2:cw X1<k
     ·exact absurd ((hkw X1 p X2 hsplit hw).2 h2) hunl
     ·omega
    obtain⟨v,hv,hvd⟩:=f3 hw
    rw[←hkk,←hhp] at hv
    have hcx:cw X1+1≤cw X:=by rw[hsplit,Yq,Xd hw];omega
    refine main v _ hv hvd ⟨k+1,by omega,rfl,fun Y y Z hY hyw=> ?_⟩
    have hcmp:=Be7 (hsplit.symm.trans hY)
    rcases hcmp with⟨rfl,rfl⟩ | ⟨M,rfl⟩ | ⟨M,hM⟩
    ·have hqs:p.1<listed.size:=by omega
     simp[hqs];omega
    ·have hpy:Pm ops p y=true:=by
      rw[hsplit] at hY
      have:=hpair
      rw[hY] at this
      exact(List.pairwise_append.1 this).2.2 p (by simp) y (by simp)
     have hne:p.1≠y.1:=fun he=>by
      simp only[Pm,Cdv] at hpy
      have:=hpy.1.1
      simp[he] at this
     rw[getD_set_ne false hne,hkw _ y Z hY hyw,Yq,Xd hw]
     omega
    ·have hpy:=hq1 y (by rw[hM];simp)
     have hne:p.1≠y.1:=fun he=>by
      simp only[Pm,Cdv] at hpy
      have:=hpy.1.1
      simp[he] at this
     rw[getD_set_ne false hne,hkw Y y Z hY hyw]
     have:cw X1=cw Y+(cw M+1):=by rw[hM,Yq,Xd hyw]
     omega
theorem Blx (hm:P.follows .mixedOrders=true) (hcl:Fg P G cl) (hn0:N8 Bd B) {id:Nat} {ops:Array Oper} {L:List (Bool×AOper)} (hc:B0m P ops nt L=true) {Q:Exit→Act→World→Prop}
  {st st':St} {a:Act} {w:World} (hR:Rel G Bd w0 O0 pl0 n0 nt st a w) (h:evX cl G B L st=some st') (hQ: ∀a' w',Rel G Bd w0 O0 pl0 n0 nt st' a' w'→Q .normal a' w'): (Code.region id ops true).wp P Q a w:=by
 unfold B0m at hc
 simp only at hc
 split at hc
 ·rename_i σ _
  simp only[Cdv] at hc
  obtain⟨⟨⟨h1,h2⟩,h3⟩,h4⟩:=hc
  have hl:=Cd6 h1
  obtain⟨p1,_,p3,p4,p5⟩:=Rw L σ [] h3
  obtain⟨r1,r2,r3⟩:=Zb L σ [] h h3
  have hnd:σ.Nodup:=by
   rw[←p4]
   refine List.pairwise_map.2 (p1.imp fun {q p} hqp he=> ?_)
   simp only[Pm,Cdv] at hqp
   have:=hqp.1.1
   simp[he] at this
  have hsz: ∀i∈σ,i<ops.size:=fun i hi=>by
   rw[←p4] at hi
   obtain⟨q,hq,rfl⟩:=List.mem_map.1 hi
   obtain⟨X1,X2,e⟩:=List.append_of_mem hq
   exact(p3 X1 q X2 e).1
  have hX: ∀p∈Na σ L,(Qm ops.size σ ((L.filter (·.1)).map (·.2)))[p.1]? =some p.2:=fun p hp=>by
   obtain⟨k,hk,e⟩:=List.mem_iff_getElem.1 hp
   have hk1:σ[k]? =some p.1:=by rw[←p4,List.getElem?_map,Cdh hk,e];rfl
   rw[Zg hnd hl hsz k p.1 hk1,←p5,List.getElem?_map,Cdh hk,e];rfl
  refine wp_region_any hm ?_
  refine Bj6 hcl hn0 h2 (X:=Na σ L) (hs:=hsX cl G B L st) (s':=st') (e0:=st.env) hX (fun i hi=> ?_) p1 r1 (fun X1 p X2 hX'=> ?_) r3 r2 hQ ops.size _ (by simp) (fun k o hk=> ?_) hR.drawn ⟨fun p hp hl=> ?_,fun t _=>rfl,0,Nat.zero_le _,(Bbu L h).symm,fun Y y Z hY hw=> ?_⟩ ?_
  ·have:=Cdl.1 h4 i (List.mem_range.2 hi)
   have hi':i∈σ:=by simpa using this
   rw[←p4] at hi'
   obtain⟨q,hq,e⟩:=List.mem_map.1 hi'
   exact⟨q,hq,e⟩
  ·obtain⟨a1,a2⟩:=p3 X1 p X2 hX'
   refine⟨a1,fun o ho e he hb=> ?_⟩
   rcases a2 o ho e he hb with⟨q,hq,_⟩ |hq
   ·simp at hq
   ·exact hq
  ·exfalso
   simp[Array.getElem?_replicate] at hk
   split at hk<;>simp at hk
  ·exfalso
   simp[Array.getElem?_replicate] at hl
   split at hl<;>simp at hl
  ·simp[Array.getElem?_replicate]
   split<;>simp
  ·unfold Kj
   exact Nat.le_trans (List.length_filter_le _ _) (by simp)
 ·simp at hc
end
section
variable {P:Program} {cl:D6} {G:Gi} {Bd:Nat→Prop} {w0:World} {O0:Gz} {pl0:Pl} {n0 nt:Nat} {B:Bn}
def Baj (ops:Array Oper) (aos:List AOper) (x y:Nat):List Nat→List Nat→Bool
 |_,[]=>true
 |pre,i::r=>
  !pre.contains i&&Nat.blt i ops.size&& (match ops[i]? with|some o=>o.after.all (fun e=> !Region.binds .any e||pre.contains e.on) |none=>false) &&
   pre.all (fun j=> (match aos[j]?,aos[i]? with|some u,some v=>Sj u v|_,_=>false) ||Nn ops ops.size i j|| (Nat.beq j x&&Nat.beq i y)) &&Baj ops aos x y (i::pre) r
theorem Rv {ops:Array Oper} {aos:List AOper} {x y:Nat} : ∀ {pre σ:List Nat},Baj ops aos x y pre σ=true→∀ {l₁:List Nat} {i:Nat} {l₂:List Nat},σ=l₁++i::l₂→
  i ∉ pre∧i ∉ l₁∧i<ops.size∧(∀o,ops[i]? =some o→∀e∈o.after,Region.binds .any e=true→e.on∈pre∨e.on∈l₁)∧
   ∀j,j∈pre∨j∈l₁→(∃u v,aos[j]? =some u∧aos[i]? =some v∧Sj u v=true)∨Nn ops ops.size i j=true∨(j=x∧i=y)
 |pre,[],h,l₁,i,l₂,e=>by simp at e
 |pre,a::r,h,l₁,i,l₂,e=>by
  simp only[Baj,Cdv] at h
  obtain⟨⟨⟨⟨h1,h2⟩,h3⟩,h4⟩,h5⟩:=h
  cases l₁ with
  |nil=>
   simp only[List.nil_append,List.cons.injEq] at e
   obtain⟨rfl,rfl⟩:=e
   refine⟨by simpa using h1,by simp,Ba7 h2,fun o ho e he hb=> .inl ?_,fun j hj=> ?_⟩
   ·simp only[ho] at h3
    have:=Array.all_eq_true_iff_forall_mem.1 h3 e he
    simpa[hb] using this
   ·have hj:j∈pre:=by simpa using hj
    have:=Cdl.1 h4 j hj
    rw[Cdz,Cdz,Cdv] at this
    rcases this with(h|h) |h
    ·split at h
     ·rename_i u v hu hv
      exact .inl ⟨u,v,hu,hv,h⟩
     ·simp at h
    ·exact .inr (.inl h)
    ·exact .inr (.inr ⟨Cd6 h.1,Cd6 h.2⟩)
  |cons b l₁=>
   simp only[List.cons_append,List.cons.injEq] at e
   obtain⟨rfl,rfl⟩:=e
   obtain⟨k1,k2,k3,k4,k5⟩:=Rv h5 rfl
   simp only[Cdj,not_or] at k1
   refine⟨k1.2,by simp[k1.1,k2],k3,fun o ho e he hb=> ?_,fun j hj=>k5 j ?_⟩
   ·rcases k4 o ho e he hb with h|h
    ·rcases Cdj.1 h with rfl|h
     ·exact .inr (by simp)
     ·exact .inl h
    ·exact .inr (by simp[h])
   ·rcases hj with h|h
    ·exact .inl (by simp[h])
    ·rcases Cdj.1 h with rfl|h
     ·exact .inl (by simp)
     ·exact .inr h
theorem Wl {ops:Array Oper} {aos:List AOper} {x y:Nat} : ∀ {pre σ:List Nat},Baj ops aos x y pre σ=true→σ.Nodup∧∀i∈σ,i ∉ pre
 |pre,[],_=> ⟨List.nodup_nil,fun i hi=>by simp at hi⟩
 |pre,a::r,h=>by
  simp only[Baj,Cdv] at h
  obtain⟨n1,n2⟩:=Wl h.2
  have ha:a ∉ pre:=by simpa using h.1.1.1.1
  refine⟨List.nodup_cons.2 ⟨fun hm=>n2 a hm (by simp),n1⟩,fun i hi=> ?_⟩
  rcases Cdj.1 hi with rfl|hi
  ·exact ha
  ·intro hp
   exact n2 i hi (by simp[hp])
theorem Be1 {ops:Array Oper} {u:List AOper} {x y:Nat} {σ:List Nat} (hord:Baj ops u x y [] σ=true) {listed:Array Bool} (hs:listed.size=ops.size) (hemp:Region.ready .any ops listed=[]):Dx σ listed=[]:=by
 cases hr:Dx σ listed with
 |nil=>rfl
 |cons i q=>
  exfalso
  unfold Dx at hr
  obtain⟨l₁,l₂,e1,e2,e3,_⟩:=List.filter_eq_cons_iff.1 hr
  obtain⟨_,_,hin,hdep,_⟩:=Rv hord e1
  have:i∈Region.ready .any ops listed:=by
   rw[mem_ready]
   refine⟨by simpa using e3,ops[i],Cd5 hin,fun e he hb=> ?_⟩
   have hm:e.on∈l₁:=by
    rcases hdep _ (Cd5 hin) e he hb with h|h
    ·simp at h
    ·exact h
   obtain⟨m1,m2,em⟩:=List.append_of_mem hm
   have e1':σ=m1++e.on:: (m2++i::l₂):=by rw[e1,em];simp
   have hlt:=(Rv hord e1').2.2.1
   have:=e2 _ hm
   exact Mk (by omega) (by simpa using this)
  rw[hemp] at this
  cases this
theorem Bp3 {ops:Array Oper} {σ:List Nat} (hall: ∀i,i<ops.size→i∈σ) {listed:Array Bool} (hr:Dx σ listed=[]):Region.ready .any ops listed=[]:=by
 unfold Region.ready
 rw[List.filter_eq_nil_iff]
 intro i hi hh
 have:i∈Dx σ listed:=by
  unfold Dx
  rw[List.mem_filter]
  simp only[Cdv] at hh
  exact⟨hall i (List.mem_range.1 hi),hh.1⟩
 rw[hr] at this
 cases this
theorem Bhs {ops:Array Oper} {u:List AOper} {x y:Nat} {σ:List Nat} (hord:Baj ops u x y [] σ=true) (hall: ∀i,i<ops.size→i∈σ) {listed:Array Bool} (hs:listed.size=ops.size) (hd:Bfa ops listed) {i:Nat} {o:Oper} (ho:ops[i]? =some o)
  (hun:listed.getD i true=false) (hrd: ∀e∈o.after,Region.binds .any e=true→listed.getD e.on false=true) {ao:AOper} (hao:u[i]? =some ao) (hxy:i=y→listed.getD x false=true) {st st':St} (h:Jo cl G B u (Dx σ listed) st=some st'):
  ∃s1 s',Fa cl G B ao st=some s1∧Jo cl G B u (Dx σ (listed.setIfInBounds i true)) s1=some s'∧EqSt st' s'∧(Dx σ listed).length=(Dx σ (listed.setIfInBounds i true)).length+1:=by
 have hin:=(Cd4.1 ho).1
 have hmem:i∈Dx σ listed:=by
  unfold Dx
  rw[List.mem_filter]
  exact⟨hall i hin,by simp only[hun];rfl⟩
 obtain⟨p,q,hpq⟩:=List.append_of_mem hmem
 have hsp: ∃l₁ l₂,σ=l₁++i::l₂∧∀j∈p,j∈l₁:=by
  have h0:=hpq
  unfold Dx at h0
  obtain⟨m1,m2,e1,e2,e3⟩:=List.filter_eq_append_iff.1 h0
  obtain⟨k1,k2,e4,e5,_,_⟩:=List.filter_eq_cons_iff.1 e3
  refine⟨m1++k1,k2,by rw[e1,e4];simp,fun j hj=> ?_⟩
  rw[←e2] at hj
  exact List.mem_append_left _ (List.mem_filter.1 hj).1
 obtain⟨l₁,l₂,hσ,hpl⟩:=hsp
 obtain⟨_,_,_,_,hcom⟩:=Rv hord hσ
 have hcomm: ∀j∈p,∃oj,u[j]? =some oj∧Sj oj ao=true:=by
  intro j hj
  have hjr:j∈Dx σ listed:=by rw[hpq];simp[hj]
  unfold Dx at hjr
  rw[List.mem_filter] at hjr
  obtain⟨m1,m2,em⟩:=List.append_of_mem hjr.1
  have hjs:j<listed.size:=by rw[hs];exact(Rv hord em).2.2.1
  have hno:listed.getD j false=true→False:=fun h1=>by
   have h2:=hjr.2
   simp[hjs] at h1 h2
   rw[h2] at h1;cases h1
  rcases hcom j (.inr (hpl j hj)) with⟨v1,v2,hx,hy,h1⟩ |h1| ⟨rfl,rfl⟩
  ·rw[hao] at hy
   simp only[Cdt] at hy;subst hy
   exact⟨v1,hx,h1⟩
  ·exact(hno (Ky hd _ i j (fun o' ho' e he hb=>by
    rw[ho] at ho'
    simp only[Cdt] at ho';subst ho'
    exact hrd e he hb) h1)).elim
  ·exact(hno (hxy rfl)).elim
 rw[hpq] at h
 obtain⟨s1,s',k1,k2,k3⟩:=Ra hao p q hcomm h
 have hnd: (Dx σ listed).Nodup:=List.Pairwise.filter _ (Wl hord).1
 have hrest:Dx σ (listed.setIfInBounds i true)=p++q:=by
  have h1:Dx σ (listed.setIfInBounds i true)=(Dx σ listed).filter (fun k=>k !=i):=by
   unfold Dx
   rw[List.filter_filter]
   refine List.filter_congr fun k hk=> ?_
   by_cases hki:k=i
   ·subst hki
    simp[hs,hin]
   ·rw[getD_set_ne true (Ne.symm hki)]
    simp[hki]
  rw[h1,hpq]
  rw[hpq] at hnd
  have hip:i ∉ p∧i ∉ q:=by
   obtain⟨n1,n2,n3⟩:=List.nodup_append.1 hnd
   exact⟨fun hm=>n3 i hm i (by simp) rfl,(List.nodup_cons.1 n2).1⟩
  rw[List.filter_append,List.filter_cons_of_neg (by simp),List.filter_eq_self.2 (fun k hk=>by simp;rintro rfl;exact hip.1 hk),List.filter_eq_self.2 (fun k hk=>by simp;rintro rfl;exact hip.2 hk)]
 refine⟨s1,s',k1,by rw[hrest];exact k2,k3, ?_⟩
 rw[hrest,hpq]
 simp;omega
theorem Xg {ops:Array Oper} {listed:Array Bool} (hd:Bfa ops listed) {i:Nat} {o:Oper} (ho:ops[i]? =some o) (hrd: ∀e∈o.after,Region.binds .any e=true→listed.getD e.on false=true):Bfa ops (listed.setIfInBounds i true):=by
 intro k ok hk hok e he hb
 by_cases hki:k=i
 ·subst hki
  rw[ho] at hok
  simp only[Cdt] at hok;subst hok
  exact getD_set_true (hrd e he hb)
 ·rw[getD_set_ne false (Ne.symm hki)] at hk
  exact getD_set_true (hd k ok hk hok e he hb)
theorem Ba3 (hcl:Fg P G cl) (hn0:N8 Bd B) {ops:Array Oper} {u:List AOper} (hc:K5 P ops nt ops.toList u=true) {σ:List Nat} {x y:Nat} (hord:Baj ops u x y [] σ=true) (hall: ∀i,i<ops.size→i∈σ) {Q:Exit→Act→World→Prop} : ∀ (fuel:Nat) (listed:Array Bool) {st st':St} {a:Act} {w:World},
  listed.size=ops.size→Bfa ops listed→listed.getD x false=true→Rel G Bd w0 O0 pl0 n0 nt st a w→Jo cl G B u (Dx σ listed) st=some st'→(Dx σ listed).length≤fuel→(∀a' w',Rel G Bd w0 O0 pl0 n0 nt st' a' w'→Q .normal a' w')→
  wpAny P .any ops Q fuel listed a w:=by
 obtain⟨hl,Cc⟩:=Km hc
 intro fuel
 induction fuel with
 |zero=>
  intro listed st st' a w hs hd hx hR h hf hQ
  have hr:Dx σ listed=[]:=Cdk (by omega)
  rw[hr] at h
  simp only[Jo,Cdt] at h;subst h
  exact⟨Bp3 hall hr,hQ a w hR⟩
 |succ fuel ih=>
  intro listed st st' a w hs hd hx hR h hf hQ
  refine⟨fun hemp=> ?_,fun i hi=> ?_⟩
  ·have hr:=Be1 hord hs hemp
   rw[hr] at h
   simp only[Jo,Cdt] at h;subst h
   exact hQ a w hR
  ·obtain⟨hun,o,ho,hrd⟩:=mem_ready.1 hi
   obtain⟨ao,hao,hck⟩:=Cc i o (by simpa using ho)
   obtain⟨s1,s',k1,k2,k3,k4⟩:=Bhs (B:=B) (cl:=cl) (G:=G) hord hall hs hd ho hun hrd hao (fun _=>hx) h
   exact P8 hcl hn0 ho hck hR k1 fun a' w' hR'=>ih _ (by simpa using hs) (Xg hd ho hrd) (getD_set_true hx) hR' k2 (by omega) fun a2 w2 hR2=>hQ a2 w2 (hR2.congr k3.symm)
theorem Bj4 (hcl:Fg P G cl) (hn0:N8 Bd B) {ops:Array Oper} {u:List AOper} (hc:K5 P ops nt ops.toList u=true) {σ τ:List Nat} {x y:Nat} (hσ:Baj ops u x y [] σ=true) (hτ:Baj ops u y x [] τ=true) (hxy:x≠y) (hxl:x<ops.size)
  (h1all: ∀i,i<ops.size→i∈σ) (h2all: ∀i,i<ops.size→i∈τ) {Q:Exit→Act→World→Prop} : ∀ (fuel:Nat) (listed:Array Bool) {st s1 s2:St} {a:Act} {w:World},
  listed.size=ops.size→Bfa ops listed→listed.getD x true=false→listed.getD y true=false→Rel G Bd w0 O0 pl0 n0 nt st a w→Jo cl G B u (Dx σ listed) st=some s1→Jo cl G B u (Dx τ listed) st=some s2→
  (Dx σ listed).length≤fuel→(Dx τ listed).length≤fuel→(∀a' w',Rel G Bd w0 O0 pl0 n0 nt s1 a' w'→Q .normal a' w')→(∀a' w',Rel G Bd w0 O0 pl0 n0 nt s2 a' w'→Q .normal a' w')→
  wpAny P .any ops Q fuel listed a w:=by
 obtain⟨hl,Cc⟩:=Km hc
 have hmem: ∀listed:Array Bool,listed.getD x true=false→x∈Dx σ listed:=fun listed hx=>by
  unfold Dx
  rw[List.mem_filter]
  exact⟨h1all x hxl,by simp only[hx];rfl⟩
 intro fuel
 induction fuel with
 |zero=>
  intro listed st s1 s2 a w hs hd hx hy hR e1 e2 f1 f2 q1 q2
  have:=List.length_pos_of_mem (hmem listed hx)
  omega
 |succ fuel ih=>
  intro listed st s1 s2 a w hs hd hx hy hR e1 e2 f1 f2 q1 q2
  refine⟨fun hemp=> ?_,fun i hi=> ?_⟩
  ·have:=hmem listed hx
   rw[Be1 hσ hs hemp] at this
   cases this
  ·obtain⟨hun,o,ho,hrd⟩:=mem_ready.1 hi
   have hin:=(Cd4.1 ho).1
   obtain⟨ao,hao,hck⟩:=Cc i o (by simpa using ho)
   have Bw: (listed.setIfInBounds i true).getD i false=true:=by simp[hs,hin]
   by_cases hix:i=x
   ·subst hix
    obtain⟨t1,t',k1,k2,k3,k4⟩:=Bhs (B:=B) (cl:=cl) (G:=G) hσ h1all hs hd ho hun hrd hao (fun h=>absurd h hxy) e1
    exact P8 hcl hn0 ho hck hR k1 fun a' w' hR'=>Ba3 hcl hn0 hc hσ h1all fuel _ (by simpa using hs) (Xg hd ho hrd) Bw hR' k2 (by omega) fun a2 w2 hR2=>q1 a2 w2 (hR2.congr k3.symm)
   ·by_cases hiy:i=y
    ·subst hiy
     obtain⟨t1,t',k1,k2,k3,k4⟩:=Bhs (B:=B) (cl:=cl) (G:=G) hτ h2all hs hd ho hun hrd hao (fun h=>absurd h hix) e2
     exact P8 hcl hn0 ho hck hR k1 fun a' w' hR'=>Ba3 hcl hn0 hc hτ h2all fuel _ (by simpa using hs) (Xg hd ho hrd) Bw hR' k2 (by omega) fun a2 w2 hR2=>q2 a2 w2 (hR2.congr k3.symm)
    ·obtain⟨t1,t',k1,k2,k3,k4⟩:=Bhs (B:=B) (cl:=cl) (G:=G) hσ h1all hs hd ho hun hrd hao (fun h=>absurd h hiy) e1
     obtain⟨u1,u',m1,m2,m3,m4⟩:=Bhs (B:=B) (cl:=cl) (G:=G) hτ h2all hs hd ho hun hrd hao (fun h=>absurd h hix) e2
     rw[k1] at m1
     simp only[Cdt] at m1
     subst m1
     exact P8 hcl hn0 ho hck hR k1 fun a' w' hR'=>ih _ (by simpa using hs) (Xg hd ho hrd) (by rw[getD_set_ne true hix];exact hx) (by rw[getD_set_ne true hiy];exact hy) hR' k2 m2 (by omega) (by omega)
      (fun a2 w2 hR2=>q1 a2 w2 (hR2.congr k3.symm)) (fun a2 w2 hR2=>q2 a2 w2 (hR2.congr m3.symm))
end
end Go.Ev
