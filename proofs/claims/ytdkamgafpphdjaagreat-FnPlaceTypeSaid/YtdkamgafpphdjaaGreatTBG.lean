/-
  Lemmas towards the law, 33: DkT, InfP.
-/
import Derived.Test.YtdkamgafpphdjaaGreatTBD
import Derived.Test.YtdkamgafpphdjaaGreatTBE
namespace Go.Proofs.YtdkamgafpphdjaaGreat
open Go.RowKit
set_option linter.unusedVariables false
attribute [local go_sem ↓] Go.wp_at_zero Go.wp_at_succ
theorem sameT(c:Tr)(w:World)(v u:Value)(h:Lies w c v)(k:Lies w c u):Calls Tryz.prog 17 #[v,u] w fun e w'=> e= .returned (.bool true)/\Ext w w':=by
 have:=j59 c w c v u h k;rw[y95] at this;exact this
structure SlT (w:World) (A:Option Addr) (n cap:Nat) (ks:List Tr):Prop where
 hn:ks.length=n
 hl:n<=cap
 hc:cap<=maxLen
 hK:j21 w A ks
theorem SlT.ext{w w':World}{A:Option Addr}{n cap:Nat}{ks:List Tr}(h:SlT w A n cap ks)(he:Ext w w'):SlT w' A n cap ks:=⟨h.hn,h.hl,h.hc,h.hK.ext he⟩
set_option maxRecDepth 100000 in
set_option maxHeartbeats 4000000 in
theorem j73(ks:List Tr)(w:World)(A A':Option Addr)(n cap cap':Nat)(h:SlT w A n cap ks)(h':SlT w A' n cap' ks):Calls Tryz.prog 21 #[.slice A n cap, .slice A' n cap'] w fun e w'=> e= .returned (.bool true)/\Ext w w':=by
 obtain⟨hn,hl,hc,hK⟩:=h;obtain⟨-,hl',hc',hK'⟩:=h';have HN:=hdq hn;have hcc:=hc;unfold maxLen at hcc;have hcc':=hc';unfold maxLen at hcc';clear hn;have dn:((n:Int) !=(n:Int))=false:=by simp
 go_enter Tryz.func21,Tryz.ntmps21;go_wp2_with fail
 go_loopw [5] (fun i wr=> ∃j:Nat,j<=n/\i= .int .i64 j/\Ext w wr) (fun i _=> n -(intOf i).toNat)
 case atStart=> exact⟨0,Nat.zero_le _,rfl,xr _⟩
 case round=>
  obtain⟨j,hj,rfl,hx⟩:=hrel;by_cases hlt:j < n
  · have hjx:j < ks.length:=by rw[HN.out];exact hlt
    obtain⟨b,o,k1,n1,A1,p1,kids1,rfl,HK1,c0,c1,c2,l1,m1,hK1,hin1,-⟩:=hK.get hx hjx;obtain⟨b',o',k2,n2,A2,p2,kids2,rfl,HK2,d0,d1,d2,l2,m2,hK2,hin2,-⟩:=hK'.get hx hjx;have he:=HK1.out.symm.trans HK2.out;rw[<-he] at hin2;have hjz:(j:Int) <(n:Int):=by omega
    have HS:=hdq (show∀w',Ext wr w'->w'.cell? ⟨b,o+j*3,none⟩=some (.int .i64 k1)/\w'.cell? ⟨b,o+j*3+1,none⟩=some (.int .i64 n1)/\w'.cell? ⟨b,o+j*3+2,none⟩=some (.slice A1 kids1.length p1)/\w'.cell? ⟨b',o'+j*3,none⟩=some (.int .i64 k2)/\w'.cell? ⟨b',o'+j*3+1,none⟩=some (.int .i64 n2)/\w'.cell? ⟨b',o'+j*3+2,none⟩=some (.slice A2 kids2.length p2) from fun w' hw=>⟨hw.cell c0,hw.cell c1,hw.cell c2,hw.cell d0,hw.cell d1,hw.cell d2⟩);have hD:Ext wr wr.drew:=(xr wr).drew;clear he HK1 HK2 c0 c1 c2 d0 d1 d2 hjx;go_wp2_with fail
    go_region_held3 (fun w'=> w'.cell? ⟨b,o+j*3,none⟩=some (.int .i64 k1)/\w'.cell? ⟨b,o+j*3+1,none⟩=some (.int .i64 n1)/\w'.cell? ⟨b,o+j*3+2,none⟩=some (.slice A1 kids1.length p1)/\w'.cell? ⟨b',o'+j*3,none⟩=some (.int .i64 k2)/\w'.cell? ⟨b',o'+j*3+1,none⟩=some (.int .i64 n2)/\w'.cell? ⟨b',o'+j*3+2,none⟩=some (.slice A2 kids2.length p2))
     (first|exact HS.out _ (hD.trans ed) |exact HS.out _ hD)
     (first|(go_at_call 17;refine(sameT _ _ _ _ (hin1.ext hD) (hin2.ext hD)).mono ?_;rintro e wd ⟨rfl,ed⟩))
    all_goals(
     go_wp2_with fail
     go_roundw
     case rel=> exact⟨j+1,by omega,by go_num,(hx.trans hD).trans ed⟩
     case measure=> simp[intOf];omega)
  · go_wp2_with fail
    go_ret;exact⟨rfl,hx⟩
structure PFx (w:World) (A:Option Addr) (n cap:Nat) (p:List Int):Prop where
 hn:p.length=n
 hl:n<=cap
 hc:cap<=maxLen
 hP:Nums w A p
theorem PFx.ext{w w':World}{A:Option Addr}{n cap:Nat}{p:List Int}(h:PFx w A n cap p)(he:Ext w w'):PFx w' A n cap p:=⟨h.hn,h.hl,h.hc,h.hP.ext he⟩
theorem ctx1{ctx q:List Tr}{t:Tr}{p:List Int}{z:Bool}{m:Nat}(h:ctxV ctx t p=(q,z))(hm:q.length=m)(w:World)(v:Value)(hin:Lies w t v)(B A:Option Addr)(bn bc n cap:Nat)(hb:SlT w B bn bc ctx)(hp:PFx w A n cap p)(h9:n < 1000):Calls Tryz.prog 19 #[.slice B bn bc,v, .slice A n cap] w fun e w'=> ∃D c,e= .returned (.tuple #[.slice D m c, .bool z])/\SlT w' D m c q/\Ext w w':=by
 obtain⟨rfl,hl,hc,hK⟩:=hb;obtain⟨rfl,pl,pc,hP⟩:=hp;have:=j116 ctx t p w v B A bc cap hin hK hl hc hP pl pc h9;rw[h] at this;refine this.mono ?_;rintro e w' ⟨D,c,rfl,h1,h2,h3,h4⟩;simp only at h1 h3;subst hm;exact⟨D,c,rfl,⟨rfl,h1,h2,h3⟩,h4⟩
theorem ctx2{ctx q:List Tr}{t:Tr}{p:List Int}{z:Bool}{m:Nat}(h:ctxV ctx t p=(q,z))(hm:q.length=m)(w:World)(v:Value)(hin:Lies w t v)(B A:Option Addr)(bn bc n cap:Nat)(hb:SlT w B bn bc ctx)(hp:PFx w A n cap p)(h9:n < 1000):Calls Tryz.prog 20 #[.slice B bn bc,v, .slice A n cap] w fun e w'=> ∃D c,e= .returned (.tuple #[.slice D m c, .bool z])/\SlT w' D m c q/\Ext w w':=by
 obtain⟨rfl,hl,hc,hK⟩:=hb;obtain⟨rfl,pl,pc,hP⟩:=hp;have:=q88 ctx t p w v B A bc cap hin hK hl hc hP pl pc h9;rw[h] at this;refine this.mono ?_;rintro e w' ⟨D,c,rfl,h1,h2,h3,h4⟩;simp only at h1 h3;subst hm;exact⟨D,c,rfl,⟨rfl,h1,h2,h3⟩,h4⟩
end Go.Proofs.YtdkamgafpphdjaaGreat
namespace Go.Proofs.YtdkamgafpphdjaaGreat
open Go.RowKit
set_option linter.unusedVariables false
abbrev An:=Option (Tr×Int)
def thn(x:An)(f:Tr->An):An:=match x with
 |none=> none
 |some (s,c)=> if c=0 then f s else some (j14,c)
def mkV(t:Tr):Tr×Int:=if valid sigT t=true then(t,0) else(j14,2)
def cvtV(a b:Tr):Int:=if y96 a b 200=1 then 0 else if y96 a b 200=2 then 1 else 2
def shpV(t:Tr)(kind:Int):Tr×Int:=if(hnfV t 200).2≠0 then(j14,2) else if(hnfV t 200).1.kind≠kind then(j14,1) else((hnfV t 200).1,0)
def frmV(x:An)(kind:Int):An:=thn x fun s=> some (shpV s kind)
def chkV(x:An)(want:Tr)(y:An):An:=thn x fun s=> if cvtV s want=0 then y else some (j14,cvtV s want)
def natT:Tr:= .mk 6 0 []
def srtT(n:Int):Tr:= .mk 2 n []
def varT(n:Int):Tr:= .mk 1 n []
def stpT(p:Tr):Tr:= .mk 3 0 [natT, .mk 3 0 [.mk 5 0 [shfT 1 p 0,varT 0], .mk 5 0 [shfT 2 p 0, .mk 8 0 [varT 1]]]]
def famV(x:An)(T:Tr)(y:An):An:=thn (frmV x 3) fun s=> if cvtV (kd s.kids 0) T=0 then thn (some (shpV (kd s.kids 1) 2)) fun _=> y else some (j14,cvtV (kd s.kids 0) T)
def arrV(ty:Nat->An):An:=thn (frmV (ty 0) 2) fun a=> thn (frmV (ty 1) 2) fun b=> some (srtT (max a.num b.num),0)
def lamV(inf:Tr->An)(ty:Nat->An)(A:Tr):An:=thn (frmV (ty 0) 2) fun _=> thn (ty 1) fun b=> thn (some (mkV (.mk 3 0 [A,b]))) fun out=> thn (inf out) fun _=> some (out,0)
def appV(ty:Nat->An)(a:Tr):An:=thn (frmV (ty 0) 3) fun s=> chkV (ty 1) (kd s.kids 0) (some (mkV (sbsT a (kd s.kids 1) 0 0)))
def elmV(ty:Nat->An)(p a:Tr):An:=famV (ty 0) natT (thn (some (mkV (.mk 5 0 [p, .mk 7 0 []]))) fun w=> chkV (ty 1) w (thn (some (mkV (stpT p))) fun w2=> chkV (ty 2) w2 (chkV (ty 3) natT (some (mkV (.mk 5 0 [p,a]))))))
def idnV(ty:Nat->An)(T:Tr):An:=thn (frmV (ty 0) 2) fun s=> chkV (ty 1) T (chkV (ty 2) T (some (srtT s.num,0)))
def rflV(inf:Tr->An)(ty:Nat->An)(a:Tr):An:=thn (ty 0) fun s=> thn (frmV (inf s) 2) fun _=> some (mkV (.mk 10 0 [s,a,a]))
def movV(ty:Nat->An)(p:Tr):An:=thn (frmV (ty 1) 10) fun e=> famV (ty 0) (kd e.kids 0) (thn (some (mkV (.mk 5 0 [p,kd e.kids 1]))) fun w=> chkV (ty 2) w (some (mkV (.mk 5 0 [p,kd e.kids 2]))))
def parV(ty:Nat->An)(T a:Tr):An:=thn (frmV (ty 0) 2) fun _=> thn (some (shpV T 13)) fun s=> chkV (ty 1) (kd s.kids 0) (thn (some (mkV (sbsT a (kd s.kids 1) 0 0))) fun w=> chkV (ty 2) w (some (T,0)))
def prtV(ty:Nat->An)(k:Int)(a:Tr):An:=thn (frmV (ty 0) 13) fun s=> if k=15 then some (kd s.kids 0,0) else some (mkV (sbsT (.mk 15 0 [a]) (kd s.kids 1) 0 0))
def lkV(G:List Tr)(n:Int):Tr×Int:=if(G.length:Int)<=n then(j14,1) else mkV (shfT (n+1) (kd G (G.length - 1 - n.toNat)) 0)
def judV(G:List Tr)(inf:Tr->An)(ty:Nat->An)(k n:Int)(ks:List Tr):An:=
 if k=1 then some (lkV G n)
 else if k=2 then some (if n=3 then(j14,1) else(srtT (n+1),0))
 else if k=6 then some (srtT 0,0)
 else if k=7 then some (natT,0)
 else if k=8 then chkV (ty 0) natT (some (natT,0))
 else if k=3\/k=13 then arrV ty
 else if k=4 then lamV inf ty (kd ks 0)
 else if k=5 then appV ty (kd ks 1)
 else if k=9 then elmV ty (kd ks 0) (kd ks 3)
 else if k=10 then idnV ty (kd ks 0)
 else if k=11 then rflV inf ty (kd ks 0)
 else if k=12 then movV ty (kd ks 0)
 else if k=14 then parV ty (kd ks 0) (kd ks 1)
 else prtV ty k (kd ks 0)
def tyV(inf:List Tr->Tr->An)(G:List Tr)(k:Int)(ks:List Tr)(i:Nat):An:=
 if und k i=0 then inf G (kd ks i) else if 20<=G.length then some (j14,2) else inf (G++ [kd ks 0]) (kd ks i)
def infV:Nat->List Tr->Tr->An
 |0,_,_=> none
 |f+1,G, .mk k n ks=> judV G (infV f G) (tyV (infV f) G k ks) k n ks
theorem j33{x:An}{f:Tr->An}{r:Tr×Int}(h:thn x f=some r):(∃s,x=some (s,0)/\f s=some r)\/ ∃s c,x=some (s,c)/\c≠0/\r=(j14,c):=by
 unfold thn at h;cases x with
 |none=> cases h
 |some y=>
  obtain⟨s,c⟩:=y;simp only at h
  split at h
  · rename_i hc
    subst hc;exact .inl ⟨s,rfl,h⟩
  · rename_i hc
    exact .inr ⟨s,c,rfl,hc,by simpa using h.symm⟩
theorem j17{x:An}{f:Tr->An}{u:Tr}(h:thn x f=some (u,0)): ∃s,x=some (s,0)/\f s=some (u,0):=by
 rcases j33 h with h|⟨s,c,-,hc,h⟩
 · exact h
 · simp only[Prod.mk.injEq] at h
   exact absurd h.2.symm hc
theorem j71{y:Tr×Int}{f:Tr->An}{u:Tr}(h:thn (some y) f=some (u,0)):y.2=0/\f y.1=some (u,0):=by
 obtain⟨s,h1,h2⟩:=j17 h;simp only[Option.some.injEq] at h1;subst h1;exact⟨rfl,h2⟩
theorem j91{t:Tr}(h:(mkV t).2=0):valid sigT t=true/\(mkV t).1=t:=by
 unfold mkV at h⊢
 split at h
 · rename_i hv
   exact⟨hv,by rw[if_pos hv]⟩
 · simp at h
theorem j29{t u:Tr}(h:some (mkV t)=some (u,(0:Int))):valid sigT t=true/\u=t:=by
 have h1:mkV t=(u,0):=by simpa using h
 obtain⟨h2,h3⟩:=j91 (t:=t) (by rw[h1]);rw[h1] at h3;exact⟨h2,h3⟩
theorem q97{t:Tr}{kind:Int}(h:(shpV t kind).2=0):hnfV t 200=((shpV t kind).1,0)/\(shpV t kind).1.kind=kind:=by
 unfold shpV at h⊢
 split at h
 · simp at h
 · rename_i h1
   split at h
   · simp at h
   · rename_i h2
     rw[if_neg h1,if_neg h2];exact⟨by rw[<-show(hnfV t 200).2=0 by simpa using h1],by simpa using h2⟩
theorem j52{x:An}{kind:Int}{s:Tr}(h:frmV x kind=some (s,0)): ∃u,x=some (u,0)/\hnfV u 200=(s,0)/\s.kind=kind:=by
 obtain⟨u,h1,h2⟩:=j17 h;have h3:shpV u kind=(s,0):=by simpa using h2
 obtain⟨h4,h5⟩:=q97 (t:=u) (kind:=kind) (by rw[h3]);rw[h3] at h4 h5;exact⟨u,h1,h4,h5⟩
theorem y44{x y:An}{want u:Tr}(h:chkV x want y=some (u,0)): ∃s,x=some (s,0)/\cvtV s want=0/\y=some (u,0):=by
 obtain⟨s,h1,h2⟩:=j17 h
 split at h2
 · rename_i hc
   exact⟨s,h1,hc,h2⟩
 · rename_i hc
   simp only[Option.some.injEq,Prod.mk.injEq] at h2;exact absurd h2.2 hc
theorem j140{x y:An}{T u:Tr}(h:famV x T y=some (u,0)): ∃F s c,x=some (F,0)/\hnfV F 200=(s,0)/\s.kind=3/\cvtV (kd s.kids 0) T=0/\hnfV (kd s.kids 1) 200=(c,0)/\c.kind=2/\y=some (u,0):=by
 obtain⟨s,h1,h2⟩:=j17 h;obtain⟨F,h3,h4,h5⟩:=j52 h1
 split at h2
 · rename_i hc
   obtain⟨h6,h7⟩:=j71 h2;obtain⟨h8,h9⟩:=q97 h6;exact⟨F,s,_,h3,h4,h5,hc,h8,h9,h7⟩
 · rename_i hc
   simp only[Option.some.injEq,Prod.mk.injEq] at h2;exact absurd h2.2 hc
theorem cvtV_ok{a b:Tr}(h:cvtV a b=0):y96 a b 200=1:=by
 unfold cvtV at h
 split at h
 · assumption
 · split at h <;> simp at h
theorem q62{t x:Tr}(h:valid sigT t=true)(hm:x∈t.kids):valid sigT x=true:=by
 obtain⟨k,n,ks⟩:=t;obtain⟨h1,h2⟩:=q12 h;have h3:=(j12 h1).2.2.2 x hm;unfold valid;rw[y65 h3 (by omega),Bool.true_and,decide_eq_true_eq];have:=y15 hm;simp only[cnt] at h2;simp only[Tr.kids] at this;omega
theorem y35{t:Tr}(h:valid sigT t=true){i:Nat}(hi:i < t.kids.length):valid sigT (kd t.kids i)=true:=q62 h (y85 hi)
end Go.Proofs.YtdkamgafpphdjaaGreat
