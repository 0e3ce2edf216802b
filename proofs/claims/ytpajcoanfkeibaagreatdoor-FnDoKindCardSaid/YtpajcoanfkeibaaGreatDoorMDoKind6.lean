/- Lemmas (several texts in one). -/
import Derived.Test.YtpajcoanfkeibaaGreatDoorMDoKind5
set_option maxRecDepth 100000
set_option linter.unusedSimpArgs false
set_option linter.unusedVariables false
set_option linter.defProp false
open List renaming getD_eq_getElem?_getD → Cda
open And renaming intro → Cds
namespace Go.Proofs.YtpajcoanfkeibaaGreatDoor.Code
open Go Go.Ev Go.Proofs
abbrev Sc:=Br×Int
abbrev Pr:=Br×Br
def Kh (x:Sc):D:= .agg [.str x.1, .int .i64 x.2]
def Kz (x:Pr):D:= .agg [.str x.1, .str x.2]
abbrev De (xs:List Sc):D:= .vals 2 (xs.map Kh)
abbrev D7 (xs:List Pr):D:= .vals 2 (xs.map Kz)
structure En where
 key:Br
 till:Int
 kind:Int
 text:Br
 list:List Br
 scores:List Sc
 fields:List Pr
def Jn (e:En):D:= .agg [.str e.key, .int .i64 e.till, .int .i64 e.kind, .str e.text,Bf e.list,De e.scores,D7 e.fields]
def Bre (n:Int):Prop:= -9223372036854775808≤n∧n≤9223372036854775807
structure EnFit (e:En):Prop where
 key:e.key.length≤9223372036854775807
 text:e.text.length≤9223372036854775807
 list:e.list.length≤9223372036854775807
 lists: ∀i,(e.list.getD i []).length≤9223372036854775807
 scores:e.scores.length≤9223372036854775807
 scoress: ∀i,((e.scores.getD i ([],0)).1).length≤9223372036854775807
 fields:e.fields.length≤9223372036854775807
 fieldss: ∀i,((e.fields.getD i ([],[])).1).length≤9223372036854775807∧((e.fields.getD i ([],[])).2).length≤9223372036854775807
 till:Bre e.till
 kind:Bre e.kind
structure Ba where
 now:Int
 ents:List En
abbrev La (es:List En):D:= .vals 7 (es.map Jn)
def Df (b:Ba):D:= .agg [.int .i64 b.now,La b.ents]
inductive Re where
 |mk (kind num:Int) (text:Br) (texts:List Br) (Bb6:List Re)
def Re.kind:Re→Int| .mk k _ _ _ _=>k
def Re.num:Re→Int| .mk _ n _ _ _=>n
def Re.text:Re→Br| .mk _ _ t _ _=>t
def Re.texts:Re→List Br| .mk _ _ _ l _=>l
def Re.many:Re→List Re| .mk _ _ _ _ m=>m
def Qy:Re→D
 | .mk k n t l m=> .agg [.int .i64 k, .int .i64 n, .str t,Bf l, .vals 5 (m.attach.map fun x=>Qy x.1)]
termination_by r=>SizeOf.sizeOf r
decreasing_by
 have:=List.sizeOf_lt_of_mem x.2
 simp only[Re.mk.sizeOf_spec]
 omega
theorem Bgl (k n:Int) (t:Br) (l:List Br) (m:List Re):Qy (.mk k n t l m)= .agg [.int .i64 k, .int .i64 n, .str t,Bf l, .vals 5 (m.map Qy)]:=by
 rw[Qy.eq_1]
 simp
theorem Bp7 (x:Sc): (Kh x).cells=[.str x.1, .int .i64 x.2]:=rfl
theorem Bl6 (x:Sc): (V.d (Kh x)).cells=[.d (.str x.1), .d (.int .i64 x.2)]:=rfl
theorem Bx4 (x:Sc): (V.d (Kh x)).isAgg=true:=rfl
theorem Bt6 (a:Br) (n:Int):D.agg [.str a, .int .i64 n]=Kh (a,n):=rfl
theorem Bpu (x:Pr): (Kz x).cells=[.str x.1, .str x.2]:=rfl
theorem Bls (x:Pr): (V.d (Kz x)).cells=[.d (.str x.1), .d (.str x.2)]:=rfl
theorem Bxx (x:Pr): (V.d (Kz x)).isAgg=true:=rfl
theorem Btd (a b:Br):D.agg [.str a, .str b]=Kz (a,b):=rfl
theorem Boy (e:En): (Jn e).cells=[.str e.key, .int .i64 e.till, .int .i64 e.kind, .str e.text,Bf e.list,De e.scores,D7 e.fields]:=rfl
theorem Bkp (e:En): (V.d (Jn e)).cells=[.d (.str e.key), .d (.int .i64 e.till), .d (.int .i64 e.kind), .d (.str e.text), .d (Bf e.list), .d (De e.scores), .d (D7 e.fields)]:=rfl
theorem Bxb (e:En): (V.d (Jn e)).isAgg=true:=rfl
theorem Bsb (k:Br) (t d:Int) (x:Br) (l:List Br) (s:List Sc) (f:List Pr):D.agg [.str k, .int .i64 t, .int .i64 d, .str x, .vals 1 (l.map D.str),De s,D7 f]=Jn ⟨k,t,d,x,l,s,f⟩:=rfl
theorem Boj (b:Ba): (Df b).cells=[.int .i64 b.now,La b.ents]:=rfl
theorem Bka (b:Ba): (V.d (Df b)).cells=[.d (.int .i64 b.now), .d (La b.ents)]:=rfl
theorem Bwk (b:Ba): (V.d (Df b)).isAgg=true:=rfl
theorem Brr (n:Int) (es:List En):D.agg [.int .i64 n,La es]=Df ⟨n,es⟩:=rfl
instance:Inhabited En:=⟨⟨[],0,0,[],[],[],[]⟩⟩
theorem Gt (es:List En) (i:Nat) (hi:i<es.length): (es.map Jn).getD i .nilp=Jn (es.getD i default):=by
 simp[Cda,hi]
theorem Jc {α:Type} {xs:List α} {i:Nat} {d:α} (hi:i<xs.length):xs.getD i d∈xs:=by
 rw[Cda,List.getElem?_eq_getElem hi]
 exact List.getElem_mem hi
structure BaFit (b:Ba):Prop where
 now:Bre b.now
 len:b.ents.length≤9223372036854775807
 each: ∀e∈b.ents,EnFit e
theorem Bsl (n e:Nat) (H:Hp):Yz n H (.nils e)=some (.d (.vals e [])):=rfl
theorem Bgk (r:Re):Qy r= .agg [.int .i64 r.kind, .int .i64 r.num, .str r.text,Bf r.texts, .vals 5 (r.many.map Qy)]:=by
 cases r;exact Bgl ..
theorem Y9 (r:Re): (Qy r).cells=[.int .i64 r.kind, .int .i64 r.num, .str r.text,Bf r.texts, .vals 5 (r.many.map Qy)]:=by rw[Bgk];rfl
theorem Wp (r:Re): (V.d (Qy r)).cells=[.d (.int .i64 r.kind), .d (.int .i64 r.num), .d (.str r.text), .d (Bf r.texts), .d (.vals 5 (r.many.map Qy))]:=by rw[Bgk];rfl
theorem Bgj (r:Re): (V.d (Qy r)).isAgg=true:=by rw[Bgk];rfl
theorem Btt (k n:Int) (t:Br) (l:List Br) (m:List Re):D.agg [.int .i64 k, .int .i64 n, .str t, .vals 1 (l.map D.str), .vals 5 (m.map Qy)]=Qy (.mk k n t l m):=(Bgl ..).symm
theorem Bp1 (k n:Int) (t:Br):D.agg [.int .i64 k, .int .i64 n, .str t, .vals 1 [], .vals 5 []]=Qy (.mk k n t [] []):=(Bgl k n t [] []).symm
theorem Bp2 (k n:Int) (t:Br) (l:List Br):D.agg [.int .i64 k, .int .i64 n, .str t, .vals 1 (l.map D.str), .vals 5 []]=Qy (.mk k n t l []):=(Bgl k n t l []).symm
theorem B1k (r:Re):Re.mk r.kind r.num r.text r.texts r.many=r:=by cases r;rfl
theorem Boz (k:Br) (t d:Int) (x:Br):D.agg [.str k, .int .i64 t, .int .i64 d, .str x, .vals 1 [], .vals 2 [], .vals 2 []]=Jn ⟨k,t,d,x,[],[],[]⟩:=rfl
theorem Gj (n:Int):D.agg [.int .i64 n, .vals 7 []]=Df ⟨n,[]⟩:=rfl
theorem gd0 {α:Type} (x:α) (r:List α) (d:α): (x::r).getD 0 d=x:=rfl
theorem gd1 {α:Type} (x y:α) (r:List α) (d:α): (x::y::r).getD 1 d=y:=rfl
theorem gd2 {α:Type} (x y z:α) (r:List α) (d:α): (x::y::z::r).getD 2 d=z:=rfl
theorem gd3 {α:Type} (x y z u:α) (r:List α) (d:α): (x::y::z::u::r).getD 3 d=u:=rfl
theorem gd4 {α:Type} (x y z u v:α) (r:List α) (d:α): (x::y::z::u::v::r).getD 4 d=v:=rfl
theorem gd5 {α:Type} (x y z u v w:α) (r:List α) (d:α): (x::y::z::u::v::w::r).getD 5 d=w:=rfl
theorem B2u {α:Type} (x:α) (l:List α): [x]++l=x::l:=rfl
theorem B2v {α:Type} (l:List α): []++l=l:=rfl
theorem B2w {α:Type} (x:α) (l m:List α):x::l++m=x:: (l++m):=rfl
theorem B74 {α:Type} {l:List α} {i:Nat} (h:l.length≤i):List.take i l=l:=List.take_of_length_le h
theorem B75 {α β:Type} (f:α→β) (x:α) (l:List α):List.map f (x::l)=f x::List.map f l:=rfl
theorem B04 (G:Gi) (env:Ev.Env) (H:Hp):Ev.Uo G env H []=some ([],H):=rfl
theorem B03 (G:Gi) (env:Ev.Env) (H:Hp) (k:Bool) (x:AOpd) (r:List (Bool×AOpd)):Ev.Uo G env H ((k,x)::r)=(match Zn H k (Cw G env x) with
  |some (v,H)=> (match Ev.Uo G env H r with
   |some (vs,H)=>some (v::vs,H)
   |none=>none)
  |none=>none):=rfl
theorem B76 {α β:Type} (f:α→β):List.map f []=[]:=rfl
def Bx5:=Cds @Us.eq_1 (Cds @Us.eq_2 (Cds @Us.eq_3 (Cds @Us.eq_def (Cds @Bmf.eq_1 (Cds @Bmf.eq_2 (Cds @Bjh.eq_1 (Cds @Bjh.eq_2 (Cds @Bjh.eq_3 (Cds @Bjh.eq_def (Cds @Cr.eq_1 (@Bq.eq_1)))))))))))
def Bx6:=Cds @Bq.eq_2 (Cds @Bq.eq_3 (Cds @Bq.eq_4 (Cds @Bq.eq_5 (Cds @Bq.eq_6 (Cds @Bq.eq_7 (Cds @Bq.eq_8 (Cds @Bq.eq_9 (Cds @Bq.eq_10 (Cds @Bq.eq_11 (Cds @Bq.eq_12 (Cds @Lb.eq_1 (Cds @Bq.eq_13 @ev2.eq_1))))))))))))
def Bx7:=Cds @Lb.eq_2 (Cds @Fa.eq_1 (Cds @evX.eq_1 (Cds @evX.eq_2 (Cds @evX.eq_3 (Cds @Go.Ev.Bmq.eq_1 (Cds @Ce.eq_1 (Cds @Ce.eq_2 (Cds @Ce.eq_3 (Cds @Ce.eq_4 (Cds @Ce.eq_5 (@Ce.eq_6)))))))))))
def Bx8:=Cds @Ce.eq_7 (Cds @Ce.eq_8 (Cds @Ce.eq_9 (Cds @Ce.eq_10 (Cds @Ce.eq_11 (Cds @Ce.eq_12 (Cds @Ce.eq_13 (Cds @Ce.eq_14 (Cds @Ce.eq_15 (Cds @Ce.eq_16 (Cds @Ce.eq_17 (@Ce.eq_18)))))))))))
def Bx9:=Cds @Ce.eq_19 (Cds @Ce.eq_20 (Cds @Ce.eq_21 (Cds @Ce.eq_22 (Cds @Ce.eq_23 (Cds @Ce.eq_24 (Cds @Ce.eq_25 (Cds @Ce.eq_26 (Cds @Ce.eq_27 (Cds @Ce.eq_28 (Cds @Ce.eq_29 (@Ce.eq_30)))))))))))
def Bya:=Cds @Ce.eq_31 (Cds @Ce.eq_32 (Cds @Ce.eq_33 (Cds @Ce.eq_34 (Cds @Ce.eq_35 (Cds @Ce.eq_36 (Cds @Ce.eq_37 (Cds @Ce.eq_38 (Cds @Ce.eq_39 (Cds @Ce.eq_40 (Cds @Ce.eq_41 (@Ce.eq_42)))))))))))
def Byb:=Cds @Ce.eq_43 (Cds @Ce.eq_def (Cds @Cw.eq_1 (Cds @Cw.eq_2 (Cds @Cw.eq_3 (Cds @Cw.eq_4 (Cds @Cw.eq_5 (Cds @Cw.eq_6 (Cds @Cw.eq_def (Cds @Go.Ev.Env.get.eq_1 (Cds @Go.Ev.Env.get.eq_2 (@Go.Ev.Env.put.eq_1)))))))))))
def Byc:=Cds @Go.Ev.Env.put.eq_2 (Cds @Go.Ev.Env.keep.eq_1 (Cds @Go.Ev.Env.keep.eq_2 (Cds @Qn.eq_1 (Cds @Qn.eq_2 (Cds @V.ok.eq_1 (Cds @V.ok.eq_2 (Cds @V.ok.eq_def (Cds @V.sto.eq_1 (Cds @V.sto.eq_2 (Cds @V.sto.eq_3 (@V.sto.eq_4)))))))))))
def Byd:=Cds @V.sto.eq_def (Cds @Bab.eq_1 (Cds @Bab.eq_2 (Cds @Bab.eq_3 (Cds @Bab.eq_4 (Cds @Bab.eq_5 (Cds @Bab.eq_6 (Cds @Bab.eq_7 (Cds @Bab.eq_8 (Cds @Bab.eq_def (Cds @Gu.eq_1 (@Gu.eq_2)))))))))))
def Bye:=Cds @Gu.eq_3 (Cds @Gu.eq_4 (Cds @Gu.eq_5 (Cds @Gu.eq_6 (Cds @Gu.eq_7 (Cds @Gu.eq_8 (Cds @Gu.eq_9 (Cds @Gu.eq_10 (Cds @Gu.eq_11 (Cds @Gu.eq_12 (Cds @Gu.eq_def (@M9.eq_1)))))))))))
def Bn1:=Cds @M9.eq_2 (Cds @M9.eq_3 (Cds @M9.eq_4 (Cds @M9.eq_5 (Cds @M9.eq_6 (Cds @M9.eq_7 (Cds @M9.eq_8 (Cds @M9.eq_def (Cds @Z7.eq_1 (Cds @Z7.eq_2 (Cds @Z7.eq_3 (@Z7.eq_def)))))))))))
def Bn2:=Cds @unD.eq_1 (Cds @unD.eq_2 (Cds @unD.eq_3 (Cds @unD.eq_def (Cds @Bbe.eq_1 (Cds @Bbe.eq_2 (Cds @Bbe.eq_3 (Cds @Bbe.eq_4 (Cds @Bbe.eq_5 (Cds @Bbe.eq_6 (Cds @Bbe.eq_def (@asI.eq_1)))))))))))
def Bn3:=Cds @asI.eq_2 (Cds @asI.eq_def (Cds @Bhz.eq_1 (Cds @Tk.eq_1 (Cds @Tk.eq_2 (Cds @Tk.eq_3 (Cds @Tk.eq_def (Cds @Gp.eq_1 (Cds @Gp.eq_2 (Cds @fzV.eq_1 (Cds @fzV.eq_2 (@fzV.eq_def)))))))))))
def Bn4:=Cds @fzA.eq_1 (Cds @fzA.eq_2 (Cds @fzA.eq_3 (Cds @fzA.eq_def (Cds @Bc9.eq_1 (Cds @Bc9.eq_2 (Cds @Bc9.eq_def (Cds @Sb.eq_1 (Cds @Sb.eq_2 (Cds @Sb.eq_3 (Cds @Sb.eq_def (@Kb.eq_1)))))))))))
def Bn5:=Cds @Kb.eq_2 (Cds @Kb.eq_3 (Cds @Kb.eq_4 (Cds @Kb.eq_5 (Cds @Kb.eq_def (Cds @J6.eq_1 (Cds @J6.eq_2 (Cds @J6.eq_3 (Cds @J6.eq_4 (Cds @J6.eq_def (Cds @B04 (@B03)))))))))))
def Bn6:=Cds @Zm.eq_1 (Cds @Zm.eq_2 (Cds @Zm.eq_3 (Cds @Zm.eq_def (Cds @Xm.eq_1 (Cds @Xm.eq_2 (Cds @Xm.eq_3 (Cds @Xm.eq_4 (Cds @Xm.eq_def (Cds @Gr.eq_1 (Cds @Gr.eq_2 (@Gr.eq_3)))))))))))
def Bn7:=Cds @Mw.eq_1 (Cds @Lc.eq_1 (Cds @Lc.eq_2 (Cds @Lc.eq_3 (Cds @Lc.eq_def (Cds @Bwl (Cds @IntKind.bits.eq_1 (Cds @IntKind.bits.eq_2 (Cds @IntKind.bits.eq_3 (Cds @IntKind.bits.eq_4 (Cds @IntKind.bits.eq_5 (@IntKind.bits.eq_6)))))))))))
def Bn8:=Cds @IntKind.bits.eq_7 (Cds @IntKind.bits.eq_8 (Cds @IntKind.bits.eq_def (Cds @Zn.eq_1 (Cds @Zn.eq_2 (Cds @Zn.eq_def (Cds @mV.eq_1 (Cds @oP.eq_1 (Cds @oG.eq_1 (Cds @oN.eq_1 (Cds @oL.eq_1 (@oF.eq_1)))))))))))
def s_0:=Cds @V.cells.eq_1 (Cds @V.cells.eq_2 (Cds @V.cells.eq_3 (Cds @V.cells.eq_def (Cds @D.cells.eq_1 (Cds @D.cells.eq_2 (Cds @D.cells.eq_def (Cds @V.isAgg.eq_1 (Cds @V.isAgg.eq_2 (Cds @V.isAgg.eq_3 (Cds @V.isAgg.eq_def (@Yz.eq_1)))))))))))
def s_1:=Cds @Yz.eq_2 (Cds @Yz.eq_3 (Cds @Yz.eq_4 (Cds @Yz.eq_def (Cds @Cx.eq_1 (@Bc.eq_1)))))
def Cbg:=Cds @V.cells.eq_1 (Cds @V.cells.eq_2 (Cds @V.cells.eq_3 (Cds @V.cells.eq_def (Cds @D.cells.eq_1 (Cds @D.cells.eq_2 (Cds @D.cells.eq_def (Cds @V.isAgg.eq_1 (Cds @V.isAgg.eq_2 (Cds @V.isAgg.eq_3 (Cds @V.isAgg.eq_def (@J5)))))))))))
def Cbh:=Cds @Fb (Cds @Co (Cds @Qt (Cds @Cy (Cds @Ru.eq_1 (Cds @J3.eq_1 (Cds @J3.eq_2 (Cds @J3.eq_3 (Cds @J3.eq_def (Cds @Fz.eq_1 (Cds @Fz.eq_2 (@Fz.eq_3)))))))))))
def Cbi:=Cds @Fz.eq_4 (Cds @Fz.eq_5 (Cds @Fz.eq_def (Cds @Bsk (@Bxh))))
def Cax:=Cds @V.cells.eq_1 (Cds @V.cells.eq_2 (Cds @V.cells.eq_3 (Cds @V.cells.eq_def (Cds @D.cells.eq_1 (Cds @D.cells.eq_2 (Cds @D.cells.eq_def (Cds @V.isAgg.eq_1 (Cds @V.isAgg.eq_2 (Cds @V.isAgg.eq_3 (Cds @V.isAgg.eq_def (@Ru.eq_1)))))))))))
def Cay:=Cds @J3.eq_1 (Cds @J3.eq_2 (Cds @J3.eq_3 (Cds @J3.eq_def (Cds @Fz.eq_1 (Cds @Fz.eq_2 (Cds @Fz.eq_3 (Cds @Fz.eq_4 (Cds @Fz.eq_5 (Cds @Fz.eq_def (Cds @S9.eq_1 (@S9.eq_2)))))))))))
def Caz:=Cds @S9.eq_3 (Cds @S9.eq_4 (Cds @S9.eq_5 (Cds @S9.eq_def (Cds @Bsk (Cds @ap0 (Cds @Bff (Cds @Qa (Cds @Bfe (Cds @Q7 (Cds @Bm5 (@Yk)))))))))))
def Ca0:=Cds @Ll (Cds @Wz (Cds @Bj7 (Cds @Bm4 (Cds @Brl (Cds @Bm3 (Cds @Bfd (Cds @Bg4 (Cds @Brk (Cds @Bm0 (Cds @Bm1 (@Bm2)))))))))))
def Ca1:=Cds @C8.eq_1 (Cds @Dq.eq_1 (Cds @Lr.eq_1 (Cds @Cc.eq_1 (Cds @Cc.eq_2 (Cds @Cc.eq_3 (Cds @Bw.eq_1 (Cds @Bw.eq_2 (Cds @Bw.eq_3 (Cds @Lh.eq_1 (Cds @Lh.eq_2 (@Lh.eq_3)))))))))))
def Ca2:=Cds @Lh.eq_def (Cds @R3.eq_1 (Cds @R3.eq_2 (Cds @R3.eq_3 (Cds @R3.eq_4 (Cds @R3.eq_def (Cds @Wy (Cds @Ba1 (Cds @Brm (Cds @Bft.eq_1 (Cds @Bft.eq_2 (@B2u)))))))))))
def Ca3:=Cds @B2v (@B2w)
def Ca4:=Cds @Ru.eq_1 (Cds @J3.eq_1 (Cds @J3.eq_2 (Cds @J3.eq_3 (Cds @J3.eq_def (Cds @Fz.eq_1 (Cds @Fz.eq_2 (Cds @Fz.eq_3 (Cds @Fz.eq_4 (Cds @Fz.eq_5 (Cds @Fz.eq_def (@S9.eq_1)))))))))))
def Ca5:=Cds @S9.eq_2 (Cds @S9.eq_3 (Cds @S9.eq_4 (Cds @S9.eq_5 (Cds @S9.eq_def (Cds @Bsk (Cds @ap0 (Cds @Qa (Cds @Bfe (Cds @Q7 (Cds @Bm5 (@Yk)))))))))))
def Ca6:=Cds @Ll (Cds @Wz (Cds @Bj7 (Cds @Bm4 (Cds @Brl (Cds @Bm3 (Cds @Bfd (Cds @Bg4 (Cds @Brk (Cds @Bm0 (Cds @Bm1 (@Bm2)))))))))))
def Ca7:=Cds @C8.eq_1 (Cds @Dq.eq_1 (Cds @Lr.eq_1 (Cds @Cc.eq_1 (Cds @Cc.eq_2 (Cds @Cc.eq_3 (Cds @Bw.eq_1 (Cds @Bw.eq_2 (Cds @Bw.eq_3 (Cds @Lh.eq_1 (Cds @Lh.eq_2 (@Lh.eq_3)))))))))))
def Ca8:=Cds @Lh.eq_def (Cds @R3.eq_1 (Cds @R3.eq_2 (Cds @R3.eq_3 (Cds @R3.eq_4 (Cds @R3.eq_def (Cds @Wy (Cds @Ba1 (Cds @Brm (Cds @Bft.eq_1 (Cds @Bft.eq_2 (@B2u)))))))))))
def Ca9:=Cds @B2v (Cds @B2w (Cds @Bmz (Cds @B13 (Cds @Byz (Cds @B1t (Cds @Byr (Cds @B0t (Cds @B19 (Cds @B1z (Cds @B0w (@B16)))))))))))
def Cba:=Cds @B1w (Cds @B0v (Cds @Byy (Cds @Byq (Cds @Bwq (Cds @By5 (Cds @Byx (Cds @Bwu (Cds @By2 (Cds @Byu (Cds @Bws (@By4)))))))))))
def Cbb:=Cds @Byw (Cds @Bwt (Cds @B14 (Cds @B1u (Cds @B0u (Cds @Bux (Cds @Buv (Cds @Br0 (Cds @Buw (Cds @Buu (Cds @Brz (@Bqu)))))))))))
def Cbc:=Cds @Bqt (Cds @Boq (Cds @By1 (Cds @Byt (Cds @Bwr (Cds @B18 (Cds @B1y (Cds @B17 (Cds @B1x (Cds @B15 (Cds @B1v (@By0)))))))))))
def Cbd:=Cds @Bys (Cds @By3 (Cds @Byv (Cds @B2a (Cds @B12 (Cds @Bp7 (Cds @Bl6 (Cds @Bx4 (Cds @Bt6 (Cds @Bpu (Cds @Bls (@Bxx)))))))))))
def B7f:=Cds @Btd (Cds @Boy (Cds @Bkp (Cds @Bxb (Cds @Bsb (Cds @Boj (Cds @Bka (Cds @Bwk (Cds @Brr (Cds @J5 (Cds @Wd (@Bmw.eq_1)))))))))))
def B7g:=Cds @Bmw.eq_2 (Cds @Bmw.eq_def (Cds @Bwi.eq_1 (Cds @Bwi.eq_2 (Cds @Bwi.eq_def (Cds @Bjf (Cds @Bqq (Cds @Bug (Cds @Bfu (Cds @Bxg (Cds @Bh4 (@Bb7)))))))))))
def B7h:=Cds @B8j (@B74)
def Cbe:=Cds @Qs.eq_1 (Cds @Qs.eq_2 (Cds @Be6.eq_1 (Cds @Bsl (Cds @Y9 (Cds @Wp (Cds @Bgj (Cds @Btt (Cds @Bp1 (Cds @Bp2 (Cds @B1k (@Boz)))))))))))
def Cbf:=Cds @Yh.eq_1 (Cds @Yh.eq_2 (Cds @Yh.eq_3 (@Yh.eq_def)))
def Cbj:=Cds @Db.eq_1 (Cds @Db.eq_2 (Cds @Db.eq_def (Cds @Mm.eq_1 (Cds @Mm.eq_2 (Cds @Mm.eq_3 (Cds @Mm.eq_1 (Cds @Mm.eq_2 (Cds @Mm.eq_3 (Cds @Mm.eq_def (Cds @gd0 (@gd1)))))))))))
def Cbk:=Cds @gd2 (Cds @gd3 (Cds @gd4 (Cds @gd5 (Cds @Bf.eq_1 (Cds @B75 (@B76))))))
def Cbl:=Cds @B1b.eq_1 (Cds @Zv.eq_1 (Cds @Zv.eq_2 (Cds @Zu.eq_1 (Cds @Zu.eq_2 (Cds @Zu.eq_def (Cds @Bcd.eq_1 (Cds @Bcd.eq_2 (Cds @Ux.eq_1 (Cds @Ux.eq_2 (Cds @Ux.eq_def (@Wn.eq_1)))))))))))
def Cbm:=Cds @Wn.eq_2 (Cds @Wn.eq_3 (Cds @Wn.eq_4 (Cds @Wn.eq_5 (@Wn.eq_def))))
def evE:=Cds Bx5 (Cds Bx6 (Cds Bx7 (Cds Bx8 (Cds Bx9 (Cds Bya (Cds Byb (Cds Byc (Cds Byd (Cds Bye (Cds Bn1 (Cds Bn2 (Cds Bn3 (Cds Bn4 (Cds Bn5 (Cds Bn6 (Cds Bn7 (Cds Bn8 (Cds s_0 (s_1)))))))))))))))))))
def Cm:=Cds Bx5 (Cds Bx6 (Cds Bx7 (Cds Bx8 (Cds Bx9 (Cds Bya (Cds Byb (Cds Byc (Cds Byd (Cds Bye (Cds Bn1 (Cds Bn2 (Cds Bn3 (Cds Bn4 (Cds Bn5 (Cds Bn6 (Cds Bn7 (Cds Bn8 (Cds Cbg (Cds Cbh (Cbi))))))))))))))))))))
def evA:=Cds Bx5 (Cds Bx6 (Cds Bx7 (Cds Bx8 (Cds Bx9 (Cds Bya (Cds Byb (Cds Byc (Cds Byd (Cds Bye (Cds Bn1 (Cds Bn2 (Cds Bn3 (Cds Bn4 (Cds Bn5 (Cds Bn6 (Cds Bn7 (Cds Bn8 (Cds Cax (Cds Cay (Cds Caz (Cds Ca0 (Cds Ca1 (Cds Ca2 (Ca3))))))))))))))))))))))))
def Yt:=Cds Bx5 (Cds Bx6 (Cds Bx7 (Cds Bx8 (Cds Bx9 (Cds Bya (Cds Byb (Cds Byc (Cds Byd (Cds Bye (Cds Bn1 (Cds Bn2 (Cds Bn3 (Cds Bn4 (Cds Bn5 (Cds Bn6 (Cds Bn7 (Cds Bn8 (Cds Ca4 (Cds Ca5 (Cds Ca6 (Cds Ca7 (Cds Ca8 (Cds Ca9 (Cds Cba (Cds Cbb (Cds Cbc (Cds Cbd (Cds B7f (Cds B7g (B7h))))))))))))))))))))))))))))))
def Cg:=Cds Yt (Cds Cbe (Cbf))
def Ci:=Cds Cg (Cds Cbj (Cbk))
def U7:=Cds Cbl (Cbm)
end Go.Proofs.YtpajcoanfkeibaaGreatDoor.Code
