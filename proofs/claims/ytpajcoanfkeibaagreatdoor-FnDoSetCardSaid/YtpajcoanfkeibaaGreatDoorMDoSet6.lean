/- Lemmas (several texts in one). -/
import Derived.Test.YtpajcoanfkeibaaGreatDoorMDoSet5
set_option maxRecDepth 100000
set_option linter.unusedSimpArgs false
set_option linter.unusedVariables false
set_option linter.defProp false
namespace Go.Proofs.YtpajcoanfkeibaaGreatDoor.Code
open Go Go.Ev Go.Proofs
abbrev Sc:=Bq×Int
abbrev Pr:=Bq×Bq
def Ku (x:Sc):D:= .agg [.str x.1, .int .i64 x.2]
def Lb (x:Pr):D:= .agg [.str x.1, .str x.2]
abbrev Dj (xs:List Sc):D:= .vals 2 (xs.map Ku)
abbrev Fw (xs:List Pr):D:= .vals 2 (xs.map Lb)
structure En where
 key:Bq
 till:Int
 kind:Int
 text:Bq
 list:List Bq
 scores:List Sc
 fields:List Pr
def F3 (e:En):D:= .agg [.str e.key, .int .i64 e.till, .int .i64 e.kind, .str e.text,Bf e.list,Dj e.scores,Fw e.fields]
def Bq1 (n:Int):Prop:= -9223372036854775808≤n∧n≤9223372036854775807
structure EnFit (e:En):Prop where
 key:e.key.length≤9223372036854775807
 text:e.text.length≤9223372036854775807
 list:e.list.length≤9223372036854775807
 lists: ∀i,(e.list.getD i []).length≤9223372036854775807
 scores:e.scores.length≤9223372036854775807
 scoress: ∀i,((e.scores.getD i ([],0)).1).length≤9223372036854775807
 fields:e.fields.length≤9223372036854775807
 fieldss: ∀i,((e.fields.getD i ([],[])).1).length≤9223372036854775807∧((e.fields.getD i ([],[])).2).length≤9223372036854775807
 till:Bq1 e.till
 kind:Bq1 e.kind
structure Ba where
 now:Int
 ents:List En
abbrev Lu (es:List En):D:= .vals 7 (es.map F3)
def Db (b:Ba):D:= .agg [.int .i64 b.now,Lu b.ents]
inductive Re where
 |mk (kind num:Int) (text:Bq) (texts:List Bq) (Bb1:List Re)
def Re.kind:Re→Int| .mk k _ _ _ _=>k
def Re.num:Re→Int| .mk _ n _ _ _=>n
def Re.text:Re→Bq| .mk _ _ t _ _=>t
def Re.texts:Re→List Bq| .mk _ _ _ l _=>l
def Re.many:Re→List Re| .mk _ _ _ _ m=>m
def P7:Re→D
 | .mk k n t l m=> .agg [.int .i64 k, .int .i64 n, .str t,Bf l, .vals 5 (m.attach.map fun x=>P7 x.1)]
termination_by r=>SizeOf.sizeOf r
decreasing_by
 have:=List.sizeOf_lt_of_mem x.2
 simp only[Re.mk.sizeOf_spec]
 omega
theorem Bgb (k n:Int) (t:Bq) (l:List Bq) (m:List Re):P7 (.mk k n t l m)= .agg [.int .i64 k, .int .i64 n, .str t,Bf l, .vals 5 (m.map P7)]:=by
 rw[P7.eq_1]
 simp
theorem Bpv (x:Sc): (Ku x).cells=[.str x.1, .int .i64 x.2]:=rfl
theorem Blz (x:Sc): (V.d (Ku x)).cells=[.d (.str x.1), .d (.int .i64 x.2)]:=rfl
theorem Bxh (x:Sc): (V.d (Ku x)).isAgg=true:=rfl
theorem Bti (a:Bq) (n:Int):D.agg [.str a, .int .i64 n]=Ku (a,n):=rfl
theorem Bpk (x:Pr): (Lb x).cells=[.str x.1, .str x.2]:=rfl
theorem Blj (x:Pr): (V.d (Lb x)).cells=[.d (.str x.1), .d (.str x.2)]:=rfl
theorem Bxb (x:Pr): (V.d (Lb x)).isAgg=true:=rfl
theorem Bsu (a b:Bq):D.agg [.str a, .str b]=Lb (a,b):=rfl
theorem Boo (e:En): (F3 e).cells=[.str e.key, .int .i64 e.till, .int .i64 e.kind, .str e.text,Bf e.list,Dj e.scores,Fw e.fields]:=rfl
theorem Bke (e:En): (V.d (F3 e)).cells=[.d (.str e.key), .d (.int .i64 e.till), .d (.int .i64 e.kind), .d (.str e.text), .d (Bf e.list), .d (Dj e.scores), .d (Fw e.fields)]:=rfl
theorem Bwo (e:En): (V.d (F3 e)).isAgg=true:=rfl
theorem Brz (k:Bq) (t d:Int) (x:Bq) (l:List Bq) (s:List Sc) (f:List Pr):D.agg [.str k, .int .i64 t, .int .i64 d, .str x, .vals 1 (l.map D.str),Dj s,Fw f]=F3 ⟨k,t,d,x,l,s,f⟩:=rfl
theorem Boa (b:Ba): (Db b).cells=[.int .i64 b.now,Lu b.ents]:=rfl
theorem Bjy (b:Ba): (V.d (Db b)).cells=[.d (.int .i64 b.now), .d (Lu b.ents)]:=rfl
theorem Bvv (b:Ba): (V.d (Db b)).isAgg=true:=rfl
theorem Brg (n:Int) (es:List En):D.agg [.int .i64 n,Lu es]=Db ⟨n,es⟩:=rfl
instance:Inhabited En:=⟨⟨[],0,0,[],[],[],[]⟩⟩
theorem Gy (es:List En) (i:Nat) (hi:i<es.length): (es.map F3).getD i .nilp=F3 (es.getD i default):=by
 simp[List.getD_eq_getElem?_getD,hi]
theorem Jp {α:Type} {xs:List α} {i:Nat} {d:α} (hi:i<xs.length):xs.getD i d∈xs:=by
 rw[List.getD_eq_getElem?_getD,List.getElem?_eq_getElem hi]
 exact List.getElem_mem hi
structure BaFit (b:Ba):Prop where
 now:Bq1 b.now
 len:b.ents.length≤9223372036854775807
 each: ∀e∈b.ents,EnFit e
theorem Br8 (n e:Nat) (H:Hp):Td n H (.nils e)=some (.d (.vals e [])):=rfl
theorem Bln (r:Re):P7 r= .agg [.int .i64 r.kind, .int .i64 r.num, .str r.text,Bf r.texts, .vals 5 (r.many.map P7)]:=by
 cases r;exact Bgb ..
theorem Y7 (r:Re): (P7 r).cells=[.int .i64 r.kind, .int .i64 r.num, .str r.text,Bf r.texts, .vals 5 (r.many.map P7)]:=by rw[Bln];rfl
theorem Wq (r:Re): (V.d (P7 r)).cells=[.d (.int .i64 r.kind), .d (.int .i64 r.num), .d (.str r.text), .d (Bf r.texts), .d (.vals 5 (r.many.map P7))]:=by rw[Bln];rfl
theorem Bga (r:Re): (V.d (P7 r)).isAgg=true:=by rw[Bln];rfl
theorem Bs7 (k n:Int) (t:Bq) (l:List Bq) (m:List Re):D.agg [.int .i64 k, .int .i64 n, .str t, .vals 1 (l.map D.str), .vals 5 (m.map P7)]=P7 (.mk k n t l m):=(Bgb ..).symm
theorem Bpr (k n:Int) (t:Bq):D.agg [.int .i64 k, .int .i64 n, .str t, .vals 1 [], .vals 5 []]=P7 (.mk k n t [] []):=(Bgb k n t [] []).symm
theorem Bps (k n:Int) (t:Bq) (l:List Bq):D.agg [.int .i64 k, .int .i64 n, .str t, .vals 1 (l.map D.str), .vals 5 []]=P7 (.mk k n t l []):=(Bgb k n t l []).symm
theorem B02 (r:Re):Re.mk r.kind r.num r.text r.texts r.many=r:=by cases r;rfl
theorem Bop (k:Bq) (t d:Int) (x:Bq):D.agg [.str k, .int .i64 t, .int .i64 d, .str x, .vals 1 [], .vals 2 [], .vals 2 []]=F3 ⟨k,t,d,x,[],[],[]⟩:=rfl
theorem F6 (n:Int):D.agg [.int .i64 n, .vals 7 []]=Db ⟨n,[]⟩:=rfl
theorem gd0 {α:Type} (x:α) (r:List α) (d:α): (x::r).getD 0 d=x:=rfl
theorem gd1 {α:Type} (x y:α) (r:List α) (d:α): (x::y::r).getD 1 d=y:=rfl
theorem gd2 {α:Type} (x y z:α) (r:List α) (d:α): (x::y::z::r).getD 2 d=z:=rfl
theorem gd3 {α:Type} (x y z u:α) (r:List α) (d:α): (x::y::z::u::r).getD 3 d=u:=rfl
theorem gd4 {α:Type} (x y z u v:α) (r:List α) (d:α): (x::y::z::u::v::r).getD 4 d=v:=rfl
theorem gd5 {α:Type} (x y z u v w:α) (r:List α) (d:α): (x::y::z::u::v::w::r).getD 5 d=w:=rfl
theorem B2b {α:Type} (x:α) (l:List α): [x]++l=x::l:=rfl
theorem B2c {α:Type} (l:List α): []++l=l:=rfl
theorem B2d {α:Type} (x:α) (l m:List α):x::l++m=x:: (l++m):=rfl
theorem B7g {α:Type} {l:List α} {i:Nat} (h:l.length≤i):List.take i l=l:=List.take_of_length_le h
theorem B7h {α β:Type} (f:α→β) (x:α) (l:List α):List.map f (x::l)=f x::List.map f l:=rfl
theorem B0l (G:G6) (env:Ev.Env) (H:Hp):Ev.Ut G env H []=some ([],H):=rfl
theorem B0k (G:G6) (env:Ev.Env) (H:Hp) (k:Bool) (x:AOpd) (r:List (Bool×AOpd)):Ev.Ut G env H ((k,x)::r)=(match Zm H k (Dc G env x) with
  |some (v,H)=> (match Ev.Ut G env H r with
   |some (vs,H)=>some (v::vs,H)
   |none=>none)
  |none=>none):=rfl
theorem B7i {α β:Type} (f:α→β):List.map f []=[]:=rfl
def Bxi:=And.intro @Uw.eq_1 (And.intro @Uw.eq_2 (And.intro @Uw.eq_3 (And.intro @Uw.eq_def (And.intro @Bl8.eq_1 (And.intro @Bl8.eq_2 (And.intro @Bi6.eq_1 (And.intro @Bi6.eq_2 (And.intro @Bi6.eq_3 (And.intro @Bi6.eq_def (And.intro @Ct.eq_1 (@Bp.eq_1)))))))))))
def Bxj:=And.intro @Bp.eq_2 (And.intro @Bp.eq_3 (And.intro @Bp.eq_4 (And.intro @Bp.eq_5 (And.intro @Bp.eq_6 (And.intro @Bp.eq_7 (And.intro @Bp.eq_8 (And.intro @Bp.eq_9 (And.intro @Bp.eq_10 (And.intro @Bp.eq_11 (And.intro @Bp.eq_12 (@Qb.eq_1)))))))))))
def Bxk:=And.intro @Qb.eq_2 (And.intro @F5.eq_1 (And.intro @evX.eq_1 (And.intro @evX.eq_2 (And.intro @evX.eq_3 (And.intro @Go.Ev.Bmj.eq_1 (And.intro @Cf.eq_1 (And.intro @Cf.eq_2 (And.intro @Cf.eq_3 (And.intro @Cf.eq_4 (And.intro @Cf.eq_5 (@Cf.eq_6)))))))))))
def Bxl:=And.intro @Cf.eq_7 (And.intro @Cf.eq_8 (And.intro @Cf.eq_9 (And.intro @Cf.eq_10 (And.intro @Cf.eq_11 (And.intro @Cf.eq_12 (And.intro @Cf.eq_13 (And.intro @Cf.eq_14 (And.intro @Cf.eq_15 (And.intro @Cf.eq_16 (And.intro @Cf.eq_17 (@Cf.eq_18)))))))))))
def Bxm:=And.intro @Cf.eq_19 (And.intro @Cf.eq_20 (And.intro @Cf.eq_21 (And.intro @Cf.eq_22 (And.intro @Cf.eq_23 (And.intro @Cf.eq_24 (And.intro @Cf.eq_25 (And.intro @Cf.eq_26 (And.intro @Cf.eq_27 (And.intro @Cf.eq_28 (And.intro @Cf.eq_29 (@Cf.eq_30)))))))))))
def Bxn:=And.intro @Cf.eq_31 (And.intro @Cf.eq_32 (And.intro @Cf.eq_33 (And.intro @Cf.eq_34 (And.intro @Cf.eq_35 (And.intro @Cf.eq_36 (And.intro @Cf.eq_37 (And.intro @Cf.eq_38 (And.intro @Cf.eq_39 (And.intro @Cf.eq_40 (And.intro @Cf.eq_41 (@Cf.eq_42)))))))))))
def Bxo:=And.intro @Cf.eq_43 (And.intro @Cf.eq_def (And.intro @Dc.eq_1 (And.intro @Dc.eq_2 (And.intro @Dc.eq_3 (And.intro @Dc.eq_4 (And.intro @Dc.eq_5 (And.intro @Dc.eq_6 (And.intro @Dc.eq_def (And.intro @Go.Ev.Env.get.eq_1 (And.intro @Go.Ev.Env.get.eq_2 (@Go.Ev.Env.put.eq_1)))))))))))
def Bxp:=And.intro @Go.Ev.Env.put.eq_2 (And.intro @Go.Ev.Env.keep.eq_1 (And.intro @Go.Ev.Env.keep.eq_2 (And.intro @Qz.eq_1 (And.intro @Qz.eq_2 (And.intro @V.ok.eq_1 (And.intro @V.ok.eq_2 (And.intro @V.ok.eq_def (And.intro @V.sto.eq_1 (And.intro @V.sto.eq_2 (And.intro @V.sto.eq_3 (@V.sto.eq_4)))))))))))
def Bxq:=And.intro @V.sto.eq_def (And.intro @Z8.eq_1 (And.intro @Z8.eq_2 (And.intro @Z8.eq_3 (And.intro @Z8.eq_4 (And.intro @Z8.eq_5 (And.intro @Z8.eq_6 (And.intro @Z8.eq_7 (And.intro @Z8.eq_8 (And.intro @Z8.eq_def (And.intro @G7.eq_1 (@G7.eq_2)))))))))))
def Bxr:=And.intro @G7.eq_3 (And.intro @G7.eq_4 (And.intro @G7.eq_5 (And.intro @G7.eq_6 (And.intro @G7.eq_7 (And.intro @G7.eq_8 (And.intro @G7.eq_9 (And.intro @G7.eq_10 (And.intro @G7.eq_11 (And.intro @G7.eq_12 (And.intro @G7.eq_def (@Nk.eq_1)))))))))))
def Bnt:=And.intro @Nk.eq_2 (And.intro @Nk.eq_3 (And.intro @Nk.eq_4 (And.intro @Nk.eq_5 (And.intro @Nk.eq_6 (And.intro @Nk.eq_7 (And.intro @Nk.eq_8 (And.intro @Nk.eq_def (And.intro @Z0.eq_1 (And.intro @Z0.eq_2 (And.intro @Z0.eq_3 (@Z0.eq_def)))))))))))
def Bnu:=And.intro @unD.eq_1 (And.intro @unD.eq_2 (And.intro @unD.eq_3 (And.intro @unD.eq_def (And.intro @Ba7.eq_1 (And.intro @Ba7.eq_2 (And.intro @Ba7.eq_3 (And.intro @Ba7.eq_4 (And.intro @Ba7.eq_5 (And.intro @Ba7.eq_6 (And.intro @Ba7.eq_def (@asI.eq_1)))))))))))
def Bnv:=And.intro @asI.eq_2 (And.intro @asI.eq_def (And.intro @Bho.eq_1 (And.intro @Tq.eq_1 (And.intro @Tq.eq_2 (And.intro @Tq.eq_3 (And.intro @Tq.eq_def (And.intro @Gs.eq_1 (And.intro @Gs.eq_2 (And.intro @fzV.eq_1 (And.intro @fzV.eq_2 (@fzV.eq_def)))))))))))
def Bnw:=And.intro @fzA.eq_1 (And.intro @fzA.eq_2 (And.intro @fzA.eq_3 (And.intro @fzA.eq_def (And.intro @Bc4.eq_1 (And.intro @Bc4.eq_2 (And.intro @Bc4.eq_def (And.intro @Sm.eq_1 (And.intro @Sm.eq_2 (And.intro @Sm.eq_3 (And.intro @Sm.eq_def (@Kq.eq_1)))))))))))
def Bnx:=And.intro @Kq.eq_2 (And.intro @Kq.eq_3 (And.intro @Kq.eq_4 (And.intro @Kq.eq_5 (And.intro @Kq.eq_def (And.intro @Kk.eq_1 (And.intro @Kk.eq_2 (And.intro @Kk.eq_3 (And.intro @Kk.eq_4 (And.intro @Kk.eq_def (And.intro @B0l (@B0k)))))))))))
def Bny:=And.intro @Zl.eq_1 (And.intro @Zl.eq_2 (And.intro @Zl.eq_3 (And.intro @Zl.eq_def (And.intro @Xm.eq_1 (And.intro @Xm.eq_2 (And.intro @Xm.eq_3 (And.intro @Xm.eq_4 (And.intro @Xm.eq_def (And.intro @Gu.eq_1 (And.intro @Gu.eq_2 (@Gu.eq_3)))))))))))
def Bnz:=And.intro @Ny.eq_1 (And.intro @Li.eq_1 (And.intro @Li.eq_2 (And.intro @Li.eq_3 (And.intro @Li.eq_def (And.intro @Bvw (And.intro @IntKind.bits.eq_1 (And.intro @IntKind.bits.eq_2 (And.intro @IntKind.bits.eq_3 (And.intro @IntKind.bits.eq_4 (And.intro @IntKind.bits.eq_5 (@IntKind.bits.eq_6)))))))))))
def Bn0:=And.intro @IntKind.bits.eq_7 (And.intro @IntKind.bits.eq_8 (And.intro @IntKind.bits.eq_def (And.intro @Zm.eq_1 (And.intro @Zm.eq_2 (And.intro @Zm.eq_def (And.intro @mV.eq_1 (And.intro @oP.eq_1 (And.intro @oG.eq_1 (And.intro @oN.eq_1 (And.intro @oL.eq_1 (@oF.eq_1)))))))))))
def s_0:=And.intro @V.cells.eq_1 (And.intro @V.cells.eq_2 (And.intro @V.cells.eq_3 (And.intro @V.cells.eq_def (And.intro @D.cells.eq_1 (And.intro @D.cells.eq_2 (And.intro @D.cells.eq_def (And.intro @V.isAgg.eq_1 (And.intro @V.isAgg.eq_2 (And.intro @V.isAgg.eq_3 (And.intro @V.isAgg.eq_def (@Td.eq_1)))))))))))
def s_1:=And.intro @Td.eq_2 (And.intro @Td.eq_3 (And.intro @Td.eq_4 (And.intro @Td.eq_def (And.intro @C8.eq_1 (@Be.eq_1)))))
def Cay:=And.intro @V.cells.eq_1 (And.intro @V.cells.eq_2 (And.intro @V.cells.eq_3 (And.intro @V.cells.eq_def (And.intro @D.cells.eq_1 (And.intro @D.cells.eq_2 (And.intro @D.cells.eq_def (And.intro @V.isAgg.eq_1 (And.intro @V.isAgg.eq_2 (And.intro @V.isAgg.eq_3 (And.intro @V.isAgg.eq_def (@J2)))))))))))
def Caz:=And.intro @Fq (And.intro @Dz (And.intro @Q6 (And.intro @C9 (And.intro @R4.eq_1 (And.intro @Ko.eq_1 (And.intro @Ko.eq_2 (And.intro @Ko.eq_3 (And.intro @Ko.eq_def (And.intro @F8.eq_1 (And.intro @F8.eq_2 (@F8.eq_3)))))))))))
def Ca0:=And.intro @F8.eq_4 (And.intro @F8.eq_5 (And.intro @F8.eq_def (And.intro @Br7 (@Bwu))))
def Cad:=And.intro @V.cells.eq_1 (And.intro @V.cells.eq_2 (And.intro @V.cells.eq_3 (And.intro @V.cells.eq_def (And.intro @D.cells.eq_1 (And.intro @D.cells.eq_2 (And.intro @D.cells.eq_def (And.intro @V.isAgg.eq_1 (And.intro @V.isAgg.eq_2 (And.intro @V.isAgg.eq_3 (And.intro @V.isAgg.eq_def (@R4.eq_1)))))))))))
def Cae:=And.intro @Ko.eq_1 (And.intro @Ko.eq_2 (And.intro @Ko.eq_3 (And.intro @Ko.eq_def (And.intro @F8.eq_1 (And.intro @F8.eq_2 (And.intro @F8.eq_3 (And.intro @F8.eq_4 (And.intro @F8.eq_5 (And.intro @F8.eq_def (And.intro @Xt.eq_1 (@Xt.eq_2)))))))))))
def Caf:=And.intro @Xt.eq_3 (And.intro @Xt.eq_4 (And.intro @Xt.eq_5 (And.intro @Xt.eq_def (And.intro @Br7 (And.intro @ap0 (And.intro @Be6 (And.intro @Mm (And.intro @Bai (And.intro @Rn (And.intro @Be7 (@Yh)))))))))))
def Cag:=And.intro @L6 (And.intro @Wz (And.intro @Bjv (And.intro @Bmy (And.intro @Bra (And.intro @Bmx (And.intro @Be5 (And.intro @Bgu (And.intro @Bq9 (And.intro @Bmu (And.intro @Bmv (@Bmw)))))))))))
def Cah:=And.intro @Cz.eq_1 (And.intro @Dw.eq_1 (And.intro @Np.eq_1 (And.intro @Ce.eq_1 (And.intro @Ce.eq_2 (And.intro @Ce.eq_3 (And.intro @Bw.eq_1 (And.intro @Bw.eq_2 (And.intro @Bw.eq_3 (And.intro @Mf.eq_1 (And.intro @Mf.eq_2 (@Mf.eq_3)))))))))))
def Cai:=And.intro @Mf.eq_def (And.intro @R9.eq_1 (And.intro @R9.eq_2 (And.intro @R9.eq_3 (And.intro @R9.eq_4 (And.intro @R9.eq_def (And.intro @Ud (And.intro @Bay (And.intro @Brb (And.intro @Bfm.eq_1 (And.intro @Bfm.eq_2 (@B2b)))))))))))
def Caj:=And.intro @B2c (@B2d)
def Cak:=And.intro @R4.eq_1 (And.intro @Ko.eq_1 (And.intro @Ko.eq_2 (And.intro @Ko.eq_3 (And.intro @Ko.eq_def (And.intro @F8.eq_1 (And.intro @F8.eq_2 (And.intro @F8.eq_3 (And.intro @F8.eq_4 (And.intro @F8.eq_5 (And.intro @F8.eq_def (@Xt.eq_1)))))))))))
def Cal:=And.intro @Xt.eq_2 (And.intro @Xt.eq_3 (And.intro @Xt.eq_4 (And.intro @Xt.eq_5 (And.intro @Xt.eq_def (And.intro @Br7 (And.intro @ap0 (And.intro @Mm (And.intro @Bai (And.intro @Rn (And.intro @Be7 (@Yh)))))))))))
def Cam:=And.intro @L6 (And.intro @Wz (And.intro @Bjv (And.intro @Bmy (And.intro @Bra (And.intro @Bmx (And.intro @Be5 (And.intro @Bgu (And.intro @Bq9 (And.intro @Bmu (And.intro @Bmv (@Bmw)))))))))))
def Cao:=And.intro @Cz.eq_1 (And.intro @Dw.eq_1 (And.intro @Np.eq_1 (And.intro @Ce.eq_1 (And.intro @Ce.eq_2 (And.intro @Ce.eq_3 (And.intro @Bw.eq_1 (And.intro @Bw.eq_2 (And.intro @Bw.eq_3 (And.intro @Mf.eq_1 (And.intro @Mf.eq_2 (@Mf.eq_3)))))))))))
def Caq:=And.intro @Mf.eq_def (And.intro @R9.eq_1 (And.intro @R9.eq_2 (And.intro @R9.eq_3 (And.intro @R9.eq_4 (And.intro @R9.eq_def (And.intro @Ud (And.intro @Bay (And.intro @Brb (And.intro @Bfm.eq_1 (And.intro @Bfm.eq_2 (@B2b)))))))))))
def Car:=And.intro @B2c (And.intro @B2d (And.intro @Bmt (And.intro @B1i (And.intro @Byd (And.intro @B1a (And.intro @Bx5 (And.intro @B0a (And.intro @B1o (And.intro @B1g (And.intro @B0d (@B1l)))))))))))
def Cas:=And.intro @B1d (And.intro @B0c (And.intro @Byc (And.intro @Bx4 (And.intro @Bv2 (And.intro @Byj (And.intro @Byb (And.intro @Bv6 (And.intro @Byg (And.intro @Bx8 (And.intro @Bv4 (@Byi)))))))))))
def Cat:=And.intro @Bya (And.intro @Bv5 (And.intro @B1j (And.intro @B1b (And.intro @B0b (And.intro @Bt7 (And.intro @Bt5 (And.intro @Brp (And.intro @Bt6 (And.intro @Bt4 (And.intro @Bro (@Bqf)))))))))))
def Cau:=And.intro @Bqe (And.intro @Bog (And.intro @Byf (And.intro @Bx7 (And.intro @Bv3 (And.intro @B1n (And.intro @B1f (And.intro @B1m (And.intro @B1e (And.intro @B1k (And.intro @B1c (@Bye)))))))))))
def Cav:=And.intro @Bx6 (And.intro @Byh (And.intro @Bx9 (And.intro @B1p (And.intro @B1h (And.intro @Bpv (And.intro @Blz (And.intro @Bxh (And.intro @Bti (And.intro @Bpk (And.intro @Blj (@Bxb)))))))))))
def B6s:=And.intro @Bsu (And.intro @Boo (And.intro @Bke (And.intro @Bwo (And.intro @Brz (And.intro @Boa (And.intro @Bjy (And.intro @Bvv (And.intro @Brg (And.intro @J2 (And.intro @Wh (@Bmq.eq_1)))))))))))
def B6t:=And.intro @Bmq.eq_2 (And.intro @Bmq.eq_def (And.intro @Bvt.eq_1 (And.intro @Bvt.eq_2 (And.intro @Bvt.eq_def (And.intro @Bi4 (And.intro @Bqc (And.intro @Bts (And.intro @Bfn (And.intro @Bwt (And.intro @Bhs (@Bb2)))))))))))
def B6u:=And.intro @B70 (@B7g)
def Caw:=And.intro @Q5.eq_1 (And.intro @Q5.eq_2 (And.intro @Bez.eq_1 (And.intro @Br8 (And.intro @Y7 (And.intro @Wq (And.intro @Bga (And.intro @Bs7 (And.intro @Bpr (And.intro @Bps (And.intro @B02 (@Bop)))))))))))
def Cax:=And.intro @Ye.eq_1 (And.intro @Ye.eq_2 (And.intro @Ye.eq_3 (@Ye.eq_def)))
def Ca1:=And.intro @De.eq_1 (And.intro @De.eq_2 (And.intro @De.eq_def (And.intro @M5.eq_1 (And.intro @M5.eq_2 (And.intro @M5.eq_3 (And.intro @M5.eq_1 (And.intro @M5.eq_2 (And.intro @M5.eq_3 (And.intro @M5.eq_def (And.intro @gd0 (@gd1)))))))))))
def Ca2:=And.intro @gd2 (And.intro @gd3 (And.intro @gd4 (And.intro @gd5 (And.intro @Bf.eq_1 (And.intro @B7h (@B7i))))))
def Ca3:=And.intro @B0r.eq_1 (And.intro @Zr.eq_1 (And.intro @Zr.eq_2 (And.intro @Zq.eq_1 (And.intro @Zq.eq_2 (And.intro @Zq.eq_def (And.intro @Bb9.eq_1 (And.intro @Bb9.eq_2 (And.intro @U0.eq_1 (And.intro @U0.eq_2 (And.intro @U0.eq_def (@Wo.eq_1)))))))))))
def Ca4:=And.intro @Wo.eq_2 (And.intro @Wo.eq_3 (And.intro @Wo.eq_4 (And.intro @Wo.eq_5 (@Wo.eq_def))))
def evE:=And.intro Bxi (And.intro Bxj (And.intro Bxk (And.intro Bxl (And.intro Bxm (And.intro Bxn (And.intro Bxo (And.intro Bxp (And.intro Bxq (And.intro Bxr (And.intro Bnt (And.intro Bnu (And.intro Bnv (And.intro Bnw (And.intro Bnx (And.intro Bny (And.intro Bnz (And.intro Bn0 (And.intro s_0 (s_1)))))))))))))))))))
def Cm:=And.intro Bxi (And.intro Bxj (And.intro Bxk (And.intro Bxl (And.intro Bxm (And.intro Bxn (And.intro Bxo (And.intro Bxp (And.intro Bxq (And.intro Bxr (And.intro Bnt (And.intro Bnu (And.intro Bnv (And.intro Bnw (And.intro Bnx (And.intro Bny (And.intro Bnz (And.intro Bn0 (And.intro Cay (And.intro Caz (Ca0))))))))))))))))))))
def evA:=And.intro Bxi (And.intro Bxj (And.intro Bxk (And.intro Bxl (And.intro Bxm (And.intro Bxn (And.intro Bxo (And.intro Bxp (And.intro Bxq (And.intro Bxr (And.intro Bnt (And.intro Bnu (And.intro Bnv (And.intro Bnw (And.intro Bnx (And.intro Bny (And.intro Bnz (And.intro Bn0 (And.intro Cad (And.intro Cae (And.intro Caf (And.intro Cag (And.intro Cah (And.intro Cai (Caj))))))))))))))))))))))))
def Yr:=And.intro Bxi (And.intro Bxj (And.intro Bxk (And.intro Bxl (And.intro Bxm (And.intro Bxn (And.intro Bxo (And.intro Bxp (And.intro Bxq (And.intro Bxr (And.intro Bnt (And.intro Bnu (And.intro Bnv (And.intro Bnw (And.intro Bnx (And.intro Bny (And.intro Bnz (And.intro Bn0 (And.intro Cak (And.intro Cal (And.intro Cam (And.intro Cao (And.intro Caq (And.intro Car (And.intro Cas (And.intro Cat (And.intro Cau (And.intro Cav (And.intro B6s (And.intro B6t (B6u))))))))))))))))))))))))))))))
def Ch:=And.intro Yr (And.intro Caw (Cax))
def Ca:=And.intro Ch (And.intro Ca1 (Ca2))
def Ux:=And.intro Ca3 (Ca4)
end Go.Proofs.YtpajcoanfkeibaaGreatDoor.Code
