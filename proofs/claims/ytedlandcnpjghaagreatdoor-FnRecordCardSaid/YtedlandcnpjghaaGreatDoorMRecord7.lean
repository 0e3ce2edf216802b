/- Lemmas (several texts in one). -/
import Derived.Test.YtedlandcnpjghaaGreatDoorMRecord4
import Derived.Test.YtedlandcnpjghaaGreatDoorMRecord5
import Derived.Test.YtedlandcnpjghaaGreatDoorMRecord6
set_option maxRecDepth 100000
set_option linter.unusedSimpArgs false
set_option linter.unusedVariables false
set_option linter.defProp false
set_option maxHeartbeats 2000000
namespace Go.Proofs.YtedlandcnpjghaaGreatDoor.Code
open Go Go.Ev Go.Proofs
abbrev Sc:=Bl×Int
abbrev Pr:=Bl×Bl
def Ms (x:Sc):D:= .agg [.str x.1, .int .i64 x.2]
def Pv (x:Pr):D:= .agg [.str x.1, .str x.2]
abbrev Fw (xs:List Sc):D:= .vals 2 (xs.map Ms)
abbrev Jw (xs:List Pr):D:= .vals 2 (xs.map Pv)
structure En where
 key:Bl
 till:Int
 kind:Int
 text:Bl
 list:List Bl
 scores:List Sc
 fields:List Pr
def Nf (e:En):D:= .agg [.str e.key, .int .i64 e.till, .int .i64 e.kind, .str e.text,Bf e.list,Fw e.scores,Jw e.fields]
def Bqe (n:Int):Prop:= -9223372036854775808≤n∧n≤9223372036854775807
structure EnFit (e:En):Prop where
 key:e.key.length≤9223372036854775807
 text:e.text.length≤9223372036854775807
 list:e.list.length≤9223372036854775807
 lists: ∀i,(e.list.getD i []).length≤9223372036854775807
 scores:e.scores.length≤9223372036854775807
 scoress: ∀i,((e.scores.getD i ([],0)).1).length≤9223372036854775807
 fields:e.fields.length≤9223372036854775807
 fieldss: ∀i,((e.fields.getD i ([],[])).1).length≤9223372036854775807∧((e.fields.getD i ([],[])).2).length≤9223372036854775807
 till:Bqe e.till
 kind:Bqe e.kind
structure Ba where
 now:Int
 ents:List En
abbrev Bmi (es:List En):D:= .vals 7 (es.map Nf)
def D6 (b:Ba):D:= .agg [.int .i64 b.now,Bmi b.ents]
inductive Re where
 |mk (kind num:Int) (text:Bl) (texts:List Bl) (Bb7:List Re)
def Re.kind:Re→Int| .mk k _ _ _ _=>k
def Re.num:Re→Int| .mk _ n _ _ _=>n
def Re.text:Re→Bl| .mk _ _ t _ _=>t
def Re.texts:Re→List Bl| .mk _ _ _ l _=>l
def Re.many:Re→List Re| .mk _ _ _ _ m=>m
def reD:Re→D
 | .mk k n t l m=> .agg [.int .i64 k, .int .i64 n, .str t,Bf l, .vals 5 (m.attach.map fun x=>reD x.1)]
termination_by r=>SizeOf.sizeOf r
decreasing_by
 have:=List.sizeOf_lt_of_mem x.2
 simp only[Re.mk.sizeOf_spec]
 omega
theorem Bfy (k n:Int) (t:Bl) (l:List Bl) (m:List Re):reD (.mk k n t l m)= .agg [.int .i64 k, .int .i64 n, .str t,Bf l, .vals 5 (m.map reD)]:=by
 rw[reD.eq_1]
 simp
theorem Bpb (x:Sc): (Ms x).cells=[.str x.1, .int .i64 x.2]:=rfl
theorem Blh (x:Sc): (V.d (Ms x)).cells=[.d (.str x.1), .d (.int .i64 x.2)]:=rfl
theorem Bvs (x:Sc): (V.d (Ms x)).isAgg=true:=rfl
theorem Bs3 (a:Bl) (n:Int):D.agg [.str a, .int .i64 n]=Ms (a,n):=rfl
theorem Boz (x:Pr): (Pv x).cells=[.str x.1, .str x.2]:=rfl
theorem Bk0 (x:Pr): (V.d (Pv x)).cells=[.d (.str x.1), .d (.str x.2)]:=rfl
theorem Bvj (x:Pr): (V.d (Pv x)).isAgg=true:=rfl
theorem Bsb (a b:Bl):D.agg [.str a, .str b]=Pv (a,b):=rfl
theorem Bnu (e:En): (Nf e).cells=[.str e.key, .int .i64 e.till, .int .i64 e.kind, .str e.text,Bf e.list,Fw e.scores,Jw e.fields]:=rfl
theorem Bj2 (e:En): (V.d (Nf e)).cells=[.d (.str e.key), .d (.int .i64 e.till), .d (.int .i64 e.kind), .d (.str e.text), .d (Bf e.list), .d (Fw e.scores), .d (Jw e.fields)]:=rfl
theorem Bu5 (e:En): (V.d (Nf e)).isAgg=true:=rfl
theorem Bq2 (k:Bl) (t d:Int) (x:Bl) (l:List Bl) (s:List Sc) (f:List Pr):D.agg [.str k, .int .i64 t, .int .i64 d, .str x, .vals 1 (l.map D.str),Fw s,Jw f]=Nf ⟨k,t,d,x,l,s,f⟩:=rfl
theorem Bnh (b:Ba): (D6 b).cells=[.int .i64 b.now,Bmi b.ents]:=rfl
theorem Bjs (b:Ba): (V.d (D6 b)).cells=[.d (.int .i64 b.now), .d (Bmi b.ents)]:=rfl
theorem Bun (b:Ba): (V.d (D6 b)).isAgg=true:=rfl
theorem Bqo (n:Int) (es:List En):D.agg [.int .i64 n,Bmi es]=D6 ⟨n,es⟩:=rfl
instance:Inhabited En:=⟨⟨[],0,0,[],[],[],[]⟩⟩
theorem M3 (es:List En) (i:Nat) (hi:i<es.length): (es.map Nf).getD i .nilp=Nf (es.getD i default):=by
 simp[List.getD_eq_getElem?_getD,hi]
theorem Mm {α:Type} {xs:List α} {i:Nat} {d:α} (hi:i<xs.length):xs.getD i d∈xs:=by
 rw[List.getD_eq_getElem?_getD,List.getElem?_eq_getElem hi]
 exact List.getElem_mem hi
structure BaFit (b:Ba):Prop where
 now:Bqe b.now
 len:b.ents.length≤9223372036854775807
 each: ∀e∈b.ents,EnFit e
theorem Bra (n e:Nat) (H:Hp):Wx n H (.nils e)=some (.d (.vals e [])):=rfl
theorem Bk5 (r:Re):reD r= .agg [.int .i64 r.kind, .int .i64 r.num, .str r.text,Bf r.texts, .vals 5 (r.many.map reD)]:=by
 cases r;exact Bfy ..
theorem Bo4 (r:Re): (reD r).cells=[.int .i64 r.kind, .int .i64 r.num, .str r.text,Bf r.texts, .vals 5 (r.many.map reD)]:=by rw[Bk5];rfl
theorem Bk6 (r:Re): (V.d (reD r)).cells=[.d (.int .i64 r.kind), .d (.int .i64 r.num), .d (.str r.text), .d (Bf r.texts), .d (.vals 5 (r.many.map reD))]:=by rw[Bk5];rfl
theorem Bvn (r:Re): (V.d (reD r)).isAgg=true:=by rw[Bk5];rfl
theorem Bsp (k n:Int) (t:Bl) (l:List Bl) (m:List Re):D.agg [.int .i64 k, .int .i64 n, .str t, .vals 1 (l.map D.str), .vals 5 (m.map reD)]=reD (.mk k n t l m):=(Bfy ..).symm
theorem Bo5 (k n:Int) (t:Bl):D.agg [.int .i64 k, .int .i64 n, .str t, .vals 1 [], .vals 5 []]=reD (.mk k n t [] []):=(Bfy k n t [] []).symm
theorem Bo6 (k n:Int) (t:Bl) (l:List Bl):D.agg [.int .i64 k, .int .i64 n, .str t, .vals 1 (l.map D.str), .vals 5 []]=reD (.mk k n t l []):=(Bfy k n t l []).symm
theorem By9 (r:Re):Re.mk r.kind r.num r.text r.texts r.many=r:=by cases r;rfl
theorem Bnv (k:Bl) (t d:Int) (x:Bl):D.agg [.str k, .int .i64 t, .int .i64 d, .str x, .vals 1 [], .vals 2 [], .vals 2 []]=Nf ⟨k,t,d,x,[],[],[]⟩:=rfl
theorem F9 (n:Int):D.agg [.int .i64 n, .vals 7 []]=D6 ⟨n,[]⟩:=rfl
theorem gd0 {α:Type} (x:α) (r:List α) (d:α): (x::r).getD 0 d=x:=rfl
theorem gd1 {α:Type} (x y:α) (r:List α) (d:α): (x::y::r).getD 1 d=y:=rfl
theorem gd2 {α:Type} (x y z:α) (r:List α) (d:α): (x::y::z::r).getD 2 d=z:=rfl
theorem gd3 {α:Type} (x y z u:α) (r:List α) (d:α): (x::y::z::u::r).getD 3 d=u:=rfl
theorem gd4 {α:Type} (x y z u v:α) (r:List α) (d:α): (x::y::z::u::v::r).getD 4 d=v:=rfl
theorem gd5 {α:Type} (x y z u v w:α) (r:List α) (d:α): (x::y::z::u::v::w::r).getD 5 d=w:=rfl
theorem B29 {α:Type} (x:α) (l:List α): [x]++l=x::l:=rfl
theorem B3a {α:Type} (l:List α): []++l=l:=rfl
theorem B3b {α:Type} (x:α) (l m:List α):x::l++m=x:: (l++m):=rfl
theorem B3c {α:Type} {l:List α} {i:Nat} (h:l.length≤i):List.take i l=l:=List.take_of_length_le h
theorem B3d {α β:Type} (f:α→β) (x:α) (l:List α):List.map f (x::l)=f x::List.map f l:=rfl
theorem Byy (G:Gj) (env:Ev.Env) (H:Hp):Ev.Uu G env H []=some ([],H):=rfl
theorem Byx (G:Gj) (env:Ev.Env) (H:Hp) (k:Bool) (x:AOpd) (r:List (Bool×AOpd)):Ev.Uu G env H ((k,x)::r)=(match Zw H k (Dh G env x) with
  |some (v,H)=> (match Ev.Uu G env H r with
   |some (vs,H)=>some (v::vs,H)
   |none=>none)
  |none=>none):=rfl
theorem B3e {α β:Type} (f:α→β):List.map f []=[]:=rfl
def Bzc:=And.intro @Q6.eq_1 (And.intro @Q6.eq_2 (And.intro @Q6.eq_3 (And.intro @Q6.eq_def (And.intro @Blt.eq_1 (And.intro @Blt.eq_2 (And.intro @Bi4.eq_1 (And.intro @Bi4.eq_2 (And.intro @Bi4.eq_3 (And.intro @Bi4.eq_def (And.intro @Cu.eq_1 (@Bp.eq_1)))))))))))
def Bzd:=And.intro @Bp.eq_2 (And.intro @Bp.eq_3 (And.intro @Bp.eq_4 (And.intro @Bp.eq_5 (And.intro @Bp.eq_6 (And.intro @Bp.eq_7 (And.intro @Bp.eq_8 (And.intro @Bp.eq_9 (And.intro @Bp.eq_10 (And.intro @Bp.eq_11 (And.intro @Bp.eq_12 (@Px.eq_1)))))))))))
def Bze:=And.intro @Px.eq_2 (And.intro @Fv.eq_1 (And.intro @evX.eq_1 (And.intro @evX.eq_2 (And.intro @evX.eq_3 (And.intro @Go.Ev.Bl3.eq_1 (And.intro @Ce.eq_1 (And.intro @Ce.eq_2 (And.intro @Ce.eq_3 (And.intro @Ce.eq_4 (And.intro @Ce.eq_5 (@Ce.eq_6)))))))))))
def Bzf:=And.intro @Ce.eq_7 (And.intro @Ce.eq_8 (And.intro @Ce.eq_9 (And.intro @Ce.eq_10 (And.intro @Ce.eq_11 (And.intro @Ce.eq_12 (And.intro @Ce.eq_13 (And.intro @Ce.eq_14 (And.intro @Ce.eq_15 (And.intro @Ce.eq_16 (And.intro @Ce.eq_17 (@Ce.eq_18)))))))))))
def Bzg:=And.intro @Ce.eq_19 (And.intro @Ce.eq_20 (And.intro @Ce.eq_21 (And.intro @Ce.eq_22 (And.intro @Ce.eq_23 (And.intro @Ce.eq_24 (And.intro @Ce.eq_25 (And.intro @Ce.eq_26 (And.intro @Ce.eq_27 (And.intro @Ce.eq_28 (And.intro @Ce.eq_29 (@Ce.eq_30)))))))))))
def Bzh:=And.intro @Ce.eq_31 (And.intro @Ce.eq_32 (And.intro @Ce.eq_33 (And.intro @Ce.eq_34 (And.intro @Ce.eq_35 (And.intro @Ce.eq_36 (And.intro @Ce.eq_37 (And.intro @Ce.eq_38 (And.intro @Ce.eq_39 (And.intro @Ce.eq_40 (And.intro @Ce.eq_41 (@Ce.eq_42)))))))))))
def Bzi:=And.intro @Ce.eq_43 (And.intro @Ce.eq_def (And.intro @Dh.eq_1 (And.intro @Dh.eq_2 (And.intro @Dh.eq_3 (And.intro @Dh.eq_4 (And.intro @Dh.eq_5 (And.intro @Dh.eq_6 (And.intro @Dh.eq_def (And.intro @Go.Ev.Env.get.eq_1 (And.intro @Go.Ev.Env.get.eq_2 (@Go.Ev.Env.put.eq_1)))))))))))
def Bzj:=And.intro @Go.Ev.Env.put.eq_2 (And.intro @Go.Ev.Env.keep.eq_1 (And.intro @Go.Ev.Env.keep.eq_2 (And.intro @Qm.eq_1 (And.intro @Qm.eq_2 (And.intro @V.ok.eq_1 (And.intro @V.ok.eq_2 (And.intro @V.ok.eq_def (And.intro @V.sto.eq_1 (And.intro @V.sto.eq_2 (And.intro @V.sto.eq_3 (@V.sto.eq_4)))))))))))
def Bzk:=And.intro @V.sto.eq_def (And.intro @Baj.eq_1 (And.intro @Baj.eq_2 (And.intro @Baj.eq_3 (And.intro @Baj.eq_4 (And.intro @Baj.eq_5 (And.intro @Baj.eq_6 (And.intro @Baj.eq_7 (And.intro @Baj.eq_8 (And.intro @Baj.eq_def (And.intro @Gq.eq_1 (@Gq.eq_2)))))))))))
def Bzl:=And.intro @Gq.eq_3 (And.intro @Gq.eq_4 (And.intro @Gq.eq_5 (And.intro @Gq.eq_6 (And.intro @Gq.eq_7 (And.intro @Gq.eq_8 (And.intro @Gq.eq_9 (And.intro @Gq.eq_10 (And.intro @Gq.eq_11 (And.intro @Gq.eq_12 (And.intro @Gq.eq_def (@Ng.eq_1)))))))))))
def Bs4:=And.intro @Ng.eq_2 (And.intro @Ng.eq_3 (And.intro @Ng.eq_4 (And.intro @Ng.eq_5 (And.intro @Ng.eq_6 (And.intro @Ng.eq_7 (And.intro @Ng.eq_8 (And.intro @Ng.eq_def (And.intro @Baf.eq_1 (And.intro @Baf.eq_2 (And.intro @Baf.eq_3 (@Baf.eq_def)))))))))))
def Bs5:=And.intro @unD.eq_1 (And.intro @unD.eq_2 (And.intro @unD.eq_3 (And.intro @unD.eq_def (And.intro @Bbk.eq_1 (And.intro @Bbk.eq_2 (And.intro @Bbk.eq_3 (And.intro @Bbk.eq_4 (And.intro @Bbk.eq_5 (And.intro @Bbk.eq_6 (And.intro @Bbk.eq_def (@asI.eq_1)))))))))))
def Bs6:=And.intro @asI.eq_2 (And.intro @asI.eq_def (And.intro @Bhh.eq_1 (And.intro @Tf.eq_1 (And.intro @Tf.eq_2 (And.intro @Tf.eq_3 (And.intro @Tf.eq_def (And.intro @Gv.eq_1 (And.intro @Gv.eq_2 (And.intro @fzV.eq_1 (And.intro @fzV.eq_2 (@fzV.eq_def)))))))))))
def Bs7:=And.intro @fzA.eq_1 (And.intro @fzA.eq_2 (And.intro @fzA.eq_3 (And.intro @fzA.eq_def (And.intro @Bc3.eq_1 (And.intro @Bc3.eq_2 (And.intro @Bc3.eq_def (And.intro @R5.eq_1 (And.intro @R5.eq_2 (And.intro @R5.eq_3 (And.intro @R5.eq_def (@J3.eq_1)))))))))))
def Bs8:=And.intro @J3.eq_2 (And.intro @J3.eq_3 (And.intro @J3.eq_4 (And.intro @J3.eq_5 (And.intro @J3.eq_def (And.intro @J5.eq_1 (And.intro @J5.eq_2 (And.intro @J5.eq_3 (And.intro @J5.eq_4 (And.intro @J5.eq_def (And.intro @Byy (@Byx)))))))))))
def Bs9:=And.intro @Zu.eq_1 (And.intro @Zu.eq_2 (And.intro @Zu.eq_3 (And.intro @Zu.eq_def (And.intro @Xn.eq_1 (And.intro @Xn.eq_2 (And.intro @Xn.eq_3 (And.intro @Xn.eq_4 (And.intro @Xn.eq_def (And.intro @Gi.eq_1 (And.intro @Gi.eq_2 (@Gi.eq_3)))))))))))
def Bta:=And.intro @M4.eq_1 (And.intro @K8.eq_1 (And.intro @K8.eq_2 (And.intro @K8.eq_3 (And.intro @K8.eq_def (And.intro @Buo (And.intro @IntKind.bits.eq_1 (And.intro @IntKind.bits.eq_2 (And.intro @IntKind.bits.eq_3 (And.intro @IntKind.bits.eq_4 (And.intro @IntKind.bits.eq_5 (@IntKind.bits.eq_6)))))))))))
def Btb:=And.intro @IntKind.bits.eq_7 (And.intro @IntKind.bits.eq_8 (And.intro @IntKind.bits.eq_def (And.intro @Zw.eq_1 (And.intro @Zw.eq_2 (And.intro @Zw.eq_def (And.intro @mV.eq_1 (And.intro @oP.eq_1 (And.intro @oG.eq_1 (And.intro @oN.eq_1 (And.intro @oL.eq_1 (@oF.eq_1)))))))))))
def s_0:=And.intro @V.cells.eq_1 (And.intro @V.cells.eq_2 (And.intro @V.cells.eq_3 (And.intro @V.cells.eq_def (And.intro @D.cells.eq_1 (And.intro @D.cells.eq_2 (And.intro @D.cells.eq_def (And.intro @V.isAgg.eq_1 (And.intro @V.isAgg.eq_2 (And.intro @V.isAgg.eq_3 (And.intro @V.isAgg.eq_def (@Wx.eq_1)))))))))))
def s_1:=And.intro @Wx.eq_2 (And.intro @Wx.eq_3 (And.intro @Wx.eq_4 (And.intro @Wx.eq_def (And.intro @Du.eq_1 (@Bc.eq_1)))))
def B6s:=And.intro @V.cells.eq_1 (And.intro @V.cells.eq_2 (And.intro @V.cells.eq_3 (And.intro @V.cells.eq_def (And.intro @D.cells.eq_1 (And.intro @D.cells.eq_2 (And.intro @D.cells.eq_def (And.intro @V.isAgg.eq_1 (And.intro @V.isAgg.eq_2 (And.intro @V.isAgg.eq_3 (And.intro @V.isAgg.eq_def (@Lc)))))))))))
def B6t:=And.intro @Ji (And.intro @Dr (And.intro @Qr (And.intro @G7 (And.intro @Sw.eq_1 (And.intro @K7.eq_1 (And.intro @K7.eq_2 (And.intro @K7.eq_3 (And.intro @K7.eq_def (And.intro @Gr.eq_1 (And.intro @Gr.eq_2 (@Gr.eq_3)))))))))))
def B6u:=And.intro @Gr.eq_4 (And.intro @Gr.eq_5 (And.intro @Gr.eq_def (And.intro @Bxy (@Bmq))))
def B6g:=And.intro @Sw.eq_1 (And.intro @K7.eq_1 (And.intro @K7.eq_2 (And.intro @K7.eq_3 (And.intro @K7.eq_def (And.intro @Gr.eq_1 (And.intro @Gr.eq_2 (And.intro @Gr.eq_3 (And.intro @Gr.eq_4 (And.intro @Gr.eq_5 (And.intro @Gr.eq_def (@Bhn.eq_1)))))))))))
def B6h:=And.intro @Bhn.eq_2 (And.intro @Bhn.eq_3 (And.intro @Bhn.eq_4 (And.intro @Bhn.eq_5 (And.intro @Bhn.eq_def (And.intro @Bxy (And.intro @ap0 (And.intro @R9 (And.intro @Be4 (And.intro @Yn (And.intro @Bmc (@Be5)))))))))))
def B6i:=And.intro @W9 (And.intro @Bgj (And.intro @Bqm (And.intro @Bul (And.intro @Byk (And.intro @Buk (And.intro @Bmb (And.intro @Bqk (And.intro @Byj (And.intro @Buh (And.intro @Bui (@Buj)))))))))))
def B6j:=And.intro @Ct.eq_1 (And.intro @Gh.eq_1 (And.intro @Me.eq_1 (And.intro @Ci.eq_1 (And.intro @Ci.eq_2 (And.intro @Ci.eq_3 (And.intro @Bv.eq_1 (And.intro @Bv.eq_2 (And.intro @Bv.eq_3 (And.intro @Pp.eq_1 (And.intro @Pp.eq_2 (@Pp.eq_3)))))))))))
def B6k:=And.intro @Pp.eq_def (And.intro @R6.eq_1 (And.intro @R6.eq_2 (And.intro @R6.eq_3 (And.intro @R6.eq_4 (And.intro @R6.eq_def (And.intro @Wz (And.intro @Bgi (And.intro @Bql (And.intro @Bj7.eq_1 (And.intro @Bj7.eq_2 (@B29)))))))))))
def B6l:=And.intro @B3a (And.intro @B3b (And.intro @Bqj (And.intro @Bz1 (And.intro @Bwd (And.intro @Bzt (And.intro @Bv5 (And.intro @Byp (And.intro @Bz7 (And.intro @Bzz (And.intro @Bys (@Bz4)))))))))))
def B6m:=And.intro @Bzw (And.intro @Byr (And.intro @Bwc (And.intro @Bv4 (And.intro @Bus (And.intro @Bwj (And.intro @Bwb (And.intro @Bux (And.intro @Bwg (And.intro @Bv8 (And.intro @Buv (@Bwi)))))))))))
def B6n:=And.intro @Bwa (And.intro @Buw (And.intro @Bz2 (And.intro @Bzu (And.intro @Byq (And.intro @Bt2 (And.intro @Bt0 (And.intro @Bqu (And.intro @Bt1 (And.intro @Btz (And.intro @Bqt (@Bpu)))))))))))
def B6o:=And.intro @Bpt (And.intro @Bnm (And.intro @Bwf (And.intro @Bv7 (And.intro @Buu (And.intro @Bz6 (And.intro @Bzy (And.intro @Bz5 (And.intro @Bzx (And.intro @Bz3 (And.intro @Bzv (@Bwe)))))))))))
def B6p:=And.intro @Bv6 (And.intro @Bwh (And.intro @Bv9 (And.intro @Bz8 (And.intro @Bz0 (And.intro @Bpb (And.intro @Blh (And.intro @Bvs (And.intro @Bs3 (And.intro @Boz (And.intro @Bk0 (@Bvj)))))))))))
def B2s:=And.intro @Bsb (And.intro @Bnu (And.intro @Bj2 (And.intro @Bu5 (And.intro @Bq2 (And.intro @Bnh (And.intro @Bjs (And.intro @Bun (And.intro @Bqo (And.intro @Lc (And.intro @Bkd (@Bl9.eq_1)))))))))))
def B2t:=And.intro @Bl9.eq_2 (And.intro @Bl9.eq_def (And.intro @Bue.eq_1 (And.intro @Bue.eq_2 (And.intro @Bue.eq_def (And.intro @Bi3 (And.intro @Bpq (And.intro @Btm (And.intro @Bj8 (And.intro @Bu9 (And.intro @Bho (@Wi)))))))))))
def B2u:=And.intro @B3v (@B3c)
def B6q:=And.intro @Nl.eq_1 (And.intro @Nl.eq_2 (And.intro @Yg.eq_1 (And.intro @Bra (And.intro @Bo4 (And.intro @Bk6 (And.intro @Bvn (And.intro @Bsp (And.intro @Bo5 (And.intro @Bo6 (And.intro @By9 (@Bnv)))))))))))
def B6r:=And.intro @Bba.eq_1 (And.intro @Bba.eq_2 (And.intro @Bba.eq_3 (@Bba.eq_def)))
def B6v:=And.intro @De.eq_1 (And.intro @De.eq_2 (And.intro @De.eq_def (And.intro @Mq.eq_1 (And.intro @Mq.eq_2 (And.intro @Mq.eq_3 (And.intro @Mq.eq_1 (And.intro @Mq.eq_2 (And.intro @Mq.eq_3 (And.intro @Mq.eq_def (And.intro @gd0 (@gd1)))))))))))
def B6w:=And.intro @gd2 (And.intro @gd3 (And.intro @gd4 (And.intro @gd5 (And.intro @Bf.eq_1 (And.intro @B3d (@B3e))))))
def B6x:=And.intro @By1.eq_1 (And.intro @Z5.eq_1 (And.intro @Z5.eq_2 (And.intro @Z4.eq_1 (And.intro @Z4.eq_2 (And.intro @Z4.eq_def (And.intro @Bce.eq_1 (And.intro @Bce.eq_2 (And.intro @Uy.eq_1 (And.intro @Uy.eq_2 (And.intro @Uy.eq_def (@Wn.eq_1)))))))))))
def B6y:=And.intro @Wn.eq_2 (And.intro @Wn.eq_3 (And.intro @Wn.eq_4 (And.intro @Wn.eq_5 (@Wn.eq_def))))
def evE:=And.intro Bzc (And.intro Bzd (And.intro Bze (And.intro Bzf (And.intro Bzg (And.intro Bzh (And.intro Bzi (And.intro Bzj (And.intro Bzk (And.intro Bzl (And.intro Bs4 (And.intro Bs5 (And.intro Bs6 (And.intro Bs7 (And.intro Bs8 (And.intro Bs9 (And.intro Bta (And.intro Btb (And.intro s_0 (s_1)))))))))))))))))))
def Ck:=And.intro Bzc (And.intro Bzd (And.intro Bze (And.intro Bzf (And.intro Bzg (And.intro Bzh (And.intro Bzi (And.intro Bzj (And.intro Bzk (And.intro Bzl (And.intro Bs4 (And.intro Bs5 (And.intro Bs6 (And.intro Bs7 (And.intro Bs8 (And.intro Bs9 (And.intro Bta (And.intro Btb (And.intro B6s (And.intro B6t (B6u))))))))))))))))))))
def evB:=And.intro Bzc (And.intro Bzd (And.intro Bze (And.intro Bzf (And.intro Bzg (And.intro Bzh (And.intro Bzi (And.intro Bzj (And.intro Bzk (And.intro Bzl (And.intro Bs4 (And.intro Bs5 (And.intro Bs6 (And.intro Bs7 (And.intro Bs8 (And.intro Bs9 (And.intro Bta (And.intro Btb (And.intro B6g (And.intro B6h (And.intro B6i (And.intro B6j (And.intro B6k (And.intro B6l (And.intro B6m (And.intro B6n (And.intro B6o (And.intro B6p (And.intro B2s (And.intro B2t (B2u))))))))))))))))))))))))))))))
def Co:=And.intro evB (And.intro B6q (B6r))
def Cq:=And.intro Co (And.intro B6v (B6w))
def Yv:=And.intro B6x (B6y)
theorem B0y (H:Hp) (a b c:Int):ev R 16 [.d (.int .i64 a), .d (.int .i64 b), .d (.int .i64 c)] H=some (.d (.bool (decide (a≥b) &&decide (a≤c))),H):=by
 refine Bo (fn:=f16) rfl rfl ?_
 by_cases h1:a≥b<;>by_cases h2:a≤c<;>
 simp[evE,-List.getD_eq_getElem?_getD,-List.map_map,f16,h1,h2]
theorem B3i (H:Hp) (a b c:Int):ev R 12 [.d (.int .i64 a), .d (.int .i64 b), .d (.int .i64 c)] H=some (.d (.bool (decide (a≥b) &&decide (a≤c))),H):=by
 refine Bo (fn:=f12) rfl rfl ?_
 by_cases h1:a≥b<;>by_cases h2:a≤c<;>
 simp[evE,-List.getD_eq_getElem?_getD,-List.map_map,f12,h1,h2]
theorem Pi (a b c:Int):Be (ev R) 16 [.d (.int .i64 a), .d (.int .i64 b), .d (.int .i64 c)]=some (.d (.bool (decide (a≥b) &&decide (a≤c)))):=Bb fun H=>B0y H a b c
theorem Boe (a b c:Int):Be (ev R) 12 [.d (.int .i64 a), .d (.int .i64 b), .d (.int .i64 c)]=some (.d (.bool (decide (a≥b) &&decide (a≤c)))):=Bb fun H=>B3i H a b c
def bit (s:List UInt8) (i:Int):Int:=if i / 8≥s.length then 0 else((s.getD (i / 8).toNat 0).toNat:Int) / (2 ^ (7 - i % 8).toNat) % 2
def Ka (xs:List Bl) (i:Nat):Bool:=decide (40< (xs.getD i []).length)
def Dc (xs:List Bl):Bool:=(Dy (Ka xs) xs.length 0).isNone&&decide (xs.length≤16)
theorem Bx0 (n0:Nat) (xs:List Bl) (hx:xs.length≤9223372036854775807) (H:Hp): ∀ (n i:Nat) (e:Env),i+n=xs.length→e.get 0= .d (Bf xs)→e.get 3= .d (.int .i64 i)→
  ∃e',Bg (Bp (ev R) R.glob n0 Bg Yx) [0,3] ⟨e,H⟩=some ((match Dy (Ka xs) n i with|some _=> .ret|none=> .exit 0),⟨e',H⟩)∧
   (∀j,Dy (Ka xs) n i=some j→e'.get 2= .d (.bool false))∧(Dy (Ka xs) n i=none→e'.get 0= .d (Bf xs))
 |0,i,e,hn,h0,h3=>by
  have c: ¬ (i:Int)< (xs.length:Int):=by omega
  have c': ¬i<xs.length:=by omega
  rw[Bw]
  refine⟨?_, ?_, ?_, ?_⟩
  rotate_left
  ·simp[Ck,-List.getD_eq_getElem?_getD,-List.map_map,Yx,h0,h3,Bf,c,c',Dy]
   rfl
  ·intro j hj;simp[Dy] at hj
  ·intro _
   try refine⟨?_, ?_⟩
   all_goals (first|trivial|simp[Ck,-List.getD_eq_getElem?_getD,-List.map_map,h0,h3,Bf])
 |n+1,i,e,hn,h0,h3=>by
  have c: (i:Int)< (xs.length:Int):=by omega
  have c':i<xs.length:=by omega
  have g:=Dt xs i c'
  have w1:IntKind.i64.wrap ((i:Int)+1)=((i+1:Nat):Int):=by rw[IntWalk.i64_in _ (by omega)];rfl
  have ih:=Bx0 n0 xs hx H n (i+1)
  rw[Bw]
  generalize Bg (Bp (ev R) R.glob n0 Bg Yx) [0,3]=F at ih⊢
  by_cases hb:40< (xs.getD i []).length
  ·have hb': (40:Int)< ((xs.getD i []).length:Int):=by omega
   refine⟨?_, ?_, ?_, ?_⟩
   rotate_left
   ·simp[Ck,-List.getD_eq_getElem?_getD,-List.map_map,Yx,h0,h3,Bf,c,c',g,hb,hb',Dy,Ka]
    rfl
   ·intro j hj
    simp[Dy,Ka,hb,-List.getD_eq_getElem?_getD] at hj
    try subst hj
    simp[Ck,-List.getD_eq_getElem?_getD,-List.map_map]
   ·intro hj;simp[Dy,Ka,hb,-List.getD_eq_getElem?_getD] at hj
  ·have hb': ¬ (40:Int)< ((xs.getD i []).length:Int):=by omega
   have hs:Dy (Ka xs) (n+1) i=Dy (Ka xs) n (i+1):=by simp[Dy,Ka,hb,-List.getD_eq_getElem?_getD]
   rw[hs]
   simp[Ck,-List.getD_eq_getElem?_getD,-List.map_map,Yx,h0,h3,Bf,c,c',g,hb,hb',w1]
   refine ih _ (by omega) ?_ ?_<;>rfl
theorem B1c (n0:Nat) (xs:List Bl) (hx:xs.length≤9223372036854775807) (m:Int) (H:Hp): ∀ (n i:Nat) (e:Env),i+n=xs.length→e.get 0= .d (Bf xs)→e.get 1= .d (.int .i64 m)→e.get 7= .d (Bf xs)→e.get 8= .d (.int .i64 xs.length)→e.get 9= .d (.int .i64 i)→
  ∃e',Bg (Bp (ev R) R.glob n0 Bg Bdw) [0,1,7,8,9] ⟨e,H⟩=some ((match Dy (Ka xs) n i with|some _=> .ret|none=> .exit 0),⟨e',H⟩)∧
   (∀j,Dy (Ka xs) n i=some j→e'.get 4= .d (.bool false))∧(Dy (Ka xs) n i=none→e'.get 0= .d (Bf xs)∧e'.get 1= .d (.int .i64 m))
 |0,i,e,hn,h0,h1,h7,h8,h9=>by
  have c: ¬ (i:Int)< (xs.length:Int):=by omega
  have c': ¬i<xs.length:=by omega
  rw[Bw]
  refine⟨?_, ?_, ?_, ?_⟩
  rotate_left
  ·simp[Ck,-List.getD_eq_getElem?_getD,-List.map_map,Bdw,h0,h1,h7,h8,h9,Bf,c,c',Dy]
   rfl
  ·intro j hj;simp[Dy] at hj
  ·intro _
   try refine⟨?_, ?_⟩
   all_goals (first|trivial|simp[Ck,-List.getD_eq_getElem?_getD,-List.map_map,h0,h1,h7,h8,h9,Bf])
 |n+1,i,e,hn,h0,h1,h7,h8,h9=>by
  have c: (i:Int)< (xs.length:Int):=by omega
  have c':i<xs.length:=by omega
  have g:=Dt xs i c'
  have w1:IntKind.i64.wrap ((i:Int)+1)=((i+1:Nat):Int):=by rw[IntWalk.i64_in _ (by omega)];rfl
  have ih:=B1c n0 xs hx m H n (i+1)
  rw[Bw]
  generalize Bg (Bp (ev R) R.glob n0 Bg Bdw) [0,1,7,8,9]=F at ih⊢
  by_cases hb:40< (xs.getD i []).length
  ·have hb': (40:Int)< ((xs.getD i []).length:Int):=by omega
   refine⟨?_, ?_, ?_, ?_⟩
   rotate_left
   ·simp[Ck,-List.getD_eq_getElem?_getD,-List.map_map,Bdw,h0,h1,h7,h8,h9,Bf,c,c',g,hb,hb',Dy,Ka]
    rfl
   ·intro j hj
    simp[Dy,Ka,hb,-List.getD_eq_getElem?_getD] at hj
    try subst hj
    simp[Ck,-List.getD_eq_getElem?_getD,-List.map_map]
   ·intro hj;simp[Dy,Ka,hb,-List.getD_eq_getElem?_getD] at hj
  ·have hb': ¬ (40:Int)< ((xs.getD i []).length:Int):=by omega
   have hs:Dy (Ka xs) (n+1) i=Dy (Ka xs) n (i+1):=by simp[Dy,Ka,hb,-List.getD_eq_getElem?_getD]
   rw[hs]
   simp[Ck,-List.getD_eq_getElem?_getD,-List.map_map,Bdw,h0,h1,h7,h8,h9,Bf,c,c',g,hb,hb',w1]
   refine ih _ (by omega) ?_ ?_ ?_ ?_ ?_<;>rfl
theorem Xj (H:Hp) (xs:List Bl) (hx:xs.length≤9223372036854775807):ev R 113 [.d (Bf xs)] H=some (.d (.bool (Dc xs)),H):=by
 refine Bo (fn:=f113) rfl rfl ?_
 obtain⟨e',he,h1,h2⟩:=Bx0 (Bc H) xs hx H xs.length 0 [(0, .d (Bf xs)),(3, .d (.int .i64 0))] (by omega) rfl rfl
 cases hr:Dy (Ka xs) xs.length 0 with
 |some j=>
  simp only[hr] at he
  simp[Ck,-List.getD_eq_getElem?_getD,-List.map_map,f113,he,h1 j hr,Dc,hr]
 |none=>
  simp only[hr] at he
  have h3:=h2 hr
  simp[Ck,-List.getD_eq_getElem?_getD,-List.map_map,f113,he,h3,Dc,hr,Bf]
  omega
def Qe (xs ys:List Bl) (i:Nat):Bool:=decide (¬xs.getD i []=ys.getD i [])
def Btk (xs:List Bl):Nat→Nat→Int→Int
 |0,_,l=>l
 |n+1,i,l=>if l - (xs.getD i []).length<0 then -1 else Btk xs n (i+1) (l - (xs.getD i []).length)
def left (xs:List Bl):Int:=if 1048576 - (xs.length:Int)<0 then -1 else(if Btk xs xs.length 0 (1048576 - xs.length)<0 then -1 else Btk xs xs.length 0 (1048576 - xs.length))
namespace fnExactListAt
end fnExactListAt
def Ki:Bl→Bl→Bool
 | [],s=>decide (s=[])
 |c::p,[]=>if c=42 then Ki p [] else false
 |c::p,x::s=>if c=42 then Ki p (x::s) ||Ki (c::p) s else(decide (c=63) ||decide (c=x)) &&Ki p s
termination_by p s=>p.length+s.length
theorem Bch: ∀ (n:Nat) (p s:Bl),p.length+s.length≤n→p.length≤1000000→s.length≤1000000→Be (ev R) 132 [.d (.str p), .d (.str s)]=some (.d (.bool (Ki p s)))
 |n,[],s,h,hp,hs=>Bb fun H=>by
  refine Bo (fn:=f132) rfl rfl ?_
  cases s with
  |nil=>simp(maxSteps:=1000000) [Cq,-List.getD_eq_getElem?_getD,-List.map_map,f132,Ki]
  |cons x s=>simp(maxSteps:=1000000) [Cq,-List.getD_eq_getElem?_getD,-List.map_map,f132,Ki]
 |0,c::p,s,h,hp,hs=>by simp at h
 |n+1,c::p,[],h,hp,hs=>Bb fun H=>by
  refine Bo (fn:=f132) rfl rfl ?_
  have l0: (0:Int)< (p.length:Int)+1:=by omega
  have l1: (1:Int)≤(p.length:Int)+1:=by omega
  have l2: (0:Int)≤(p.length:Int)+1:=by omega
  have tp:p.take p.length=p:=List.take_length
  by_cases a:c=42
  ·subst a
   have ih:=Bch n p [] (by simp at h⊢;omega) (by simp at hp;omega) (by simp)
   rw[Ki,if_pos rfl]
   cases hm:Ki p [] with
   |false=>rw[hm] at ih;simp(maxSteps:=1000000) [Cq,-List.getD_eq_getElem?_getD,-List.map_map,f132,ih,l0,l1,l2,tp]
   |true=>rw[hm] at ih;simp(maxSteps:=1000000) [Cq,-List.getD_eq_getElem?_getD,-List.map_map,f132,ih,l0,l1,l2,tp]
  ·have a': ¬c.toNat=42:=fun h=>a (UInt8.toNat_inj.1 h)
   have a'': ¬ (c.toNat:Int)=42:=fun h=>a' (by omega)
   rw[Ki,if_neg a]
   simp(maxSteps:=1000000) [Cq,-List.getD_eq_getElem?_getD,-List.map_map,f132,l0,l1,l2,tp,eq_false a,eq_false a',eq_false a'']
 |n+1,c::p,x::s,h,hp,hs=>Bb fun H=>by
  refine Bo (fn:=f132) rfl rfl ?_
  have l0: (0:Int)< (p.length:Int)+1:=by omega
  have l1: (1:Int)≤(p.length:Int)+1:=by omega
  have l2: (0:Int)≤(p.length:Int)+1:=by omega
  have tp:p.take p.length=p:=List.take_length
  have m0: (0:Int)< (s.length:Int)+1:=by omega
  have m1: (1:Int)≤(s.length:Int)+1:=by omega
  have m2: (0:Int)≤(s.length:Int)+1:=by omega
  have ts:s.take s.length=s:=List.take_length
  simp only[List.length_cons] at h hp hs
  by_cases a:c=42
  ·subst a
   have ih:=Bch n p (x::s) (by simp only[List.length_cons];omega) (by omega) (by simp only[List.length_cons];omega)
   have ih2:=Bch n (42::p) s (by simp only[List.length_cons];omega) (by simp only[List.length_cons];omega) (by omega)
   rw[Ki,if_pos rfl]
   cases hm:Ki p (x::s) with
   |false=>rw[hm] at ih;simp(maxSteps:=1000000) [Cq,-List.getD_eq_getElem?_getD,-List.map_map,f132,ih,ih2,l0,l1,l2,tp,m0,m1,m2,ts]
   |true=>rw[hm] at ih;simp(maxSteps:=1000000) [Cq,-List.getD_eq_getElem?_getD,-List.map_map,f132,ih,l0,l1,l2,tp,m0,m1,m2,ts]
  ·have a': ¬c.toNat=42:=fun h=>a (UInt8.toNat_inj.1 h)
   have a'': ¬ (c.toNat:Int)=42:=fun h=>a' (by omega)
   have ih:=Bch n p s (by omega) (by omega) (by omega)
   rw[Ki,if_neg a]
   by_cases b:c=63
   ·subst b
    simp(maxSteps:=1000000) [Cq,-List.getD_eq_getElem?_getD,-List.map_map,f132,ih,l0,l1,l2,tp,m0,m1,m2,ts,eq_false a,eq_false a',eq_false a'']
   ·have b': ¬c.toNat=63:=fun h=>b (UInt8.toNat_inj.1 h)
    have b'': ¬ (c.toNat:Int)=63:=fun h=>b' (by omega)
    by_cases d:c=x
    ·subst d
     simp(maxSteps:=1000000) [Cq,-List.getD_eq_getElem?_getD,-List.map_map,f132,ih,l0,l1,l2,tp,m0,m1,m2,ts,eq_false a,eq_false a',eq_false a'',eq_false b,eq_false b',eq_false b'']
    ·have d': ¬c.toNat=x.toNat:=fun h=>d (UInt8.toNat_inj.1 h)
     have d'': ¬ (c.toNat:Int)=(x.toNat:Int):=fun h=>d' (by omega)
     simp(maxSteps:=1000000) [Cq,-List.getD_eq_getElem?_getD,-List.map_map,f132,l0,l1,l2,tp,m0,m1,m2,ts,eq_false a,eq_false a',eq_false a'',eq_false b,eq_false b',eq_false b'',eq_false d,eq_false d',eq_false d'']
theorem B2n (p s:Bl) (hp:p.length≤1000000) (hs:s.length≤1000000):Be (ev R) 132 [.d (.str p), .d (.str s)]=some (.d (.bool (Ki p s))):=Bch _ p s (Nat.le_refl _) hp hs
end Go.Proofs.YtedlandcnpjghaaGreatDoor.Code
