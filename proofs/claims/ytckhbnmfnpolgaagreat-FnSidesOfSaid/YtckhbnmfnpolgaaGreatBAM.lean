/-
  Lemmas towards the law, 13: Parse3, MEnc, Box, Redex.
-/
import Derived.Test.YtckhbnmfnpolgaaGreatBAA
import Derived.Test.YtckhbnmfnpolgaaGreatBAL
open Go renaming World->aK,Value->aS,TypeId->aY
open Nat renaming zero_le->bT,le_refl->aM,zero_mul->cT,add_zero->cQ,reduceMul->eU
open List renaming eq_nil_of_length_eq_zero->aZ
open Go.Proofs.Tryz
set_option linter.unusedVariables false
set_option maxHeartbeats 4000000
set_option maxRecDepth 100000
namespace Go.Proofs.YtckhbnmfnpolgaaGreat
open Go.RowKit
def bD(B:Nat)(w:aK)(size:Nat)(o:Option (List Tr×Nat))(e:Ending)(b:aK):Prop:=
 ∃(ts:List Tr) (A:Option Addr) (cap:Nat) (a:Int),e= .returned (.tuple #[.slice A ts.length cap,.int .i64 a])/\ts.length<=cap/\cap<=maxLen/\Mb B b A ts/\Ext w b/\(∀x,o=some x->ts=x.1/\a=x.2/\x.2<=size)/\(o=none->a= -1)
theorem oG:(prog.info? 25).map (fun i=>(i.zero,i.size,i.bytes))=some (some (.agg #[.int .i64 0,.int .i64 0,.slice none 0 0]),3,40):=by kernel_rfl
theorem ZE{p:Nat->Option (Tr×Nat)}{l:List UInt8}{last:UInt8}{m a b:Nat}{t:Tr}(h:p a=some (t,b)):Pe p l last (m+1) a=if l[b]? =some (if m=0 then last else 44) then(Pe p l last m (b+1)).map (fun x=>(t::x.1,x.2)) else none:=by
 conv=> lhs;unfold Pe
 rw[h]
theorem yI{p:Nat->Option (Tr×Nat)}{l:List UInt8}{last:UInt8}{m a:Nat}(h:p a=none):Pe p l last (m+1) a=none:=by
 conv=> lhs;unfold Pe
 rw[h]
theorem NE(d:Nat)(ih:Vc d)(s:ByteArray)(a many:Nat)(last:UInt8)(w:aK)(hs:s.size<=1000000000)(ha:a<=s.size+2)(hm:many<=4)(Dv:1<=many):
 Calls prog 198 #[.string s,.int .i64 a,.int .i64 d,.int .i64 many,.int .u8 (last.toNat:Int)] w (bD w.heap.size w s.size (Pe (Z5 d s.data.toList) s.data.toList last many a)):=by
 have HI:=hdq (fun a W (ha:a<=s.size+2)=> ih s a W hs ha);obtain⟨F,hF⟩: ∃F,F=Z5 d s.data.toList:=⟨_,rfl⟩;rw[<-hF] at HI⊢;obtain⟨R,Y⟩: ∃R,R=Pe F s.data.toList last many a:=⟨_,rfl⟩;rw[<-Y];have HR:=hdq Y;obtain⟨i0,hi,hz0,hz1,hz2⟩:=info_parts oG;obtain⟨q,hq⟩: ∃q,last.toNat=q:=⟨_,rfl⟩;rw[hq];have Q:=hdq hq;clear Y ih hF hq;go_enter func198,ntmps198;go_wp2_with fail;have M:=(xr w).alloc (.cells #[] 25);have I:=heap_alloc_new w (.cells #[] 25);have L:w.heap.size <(w.alloc (.cells #[] 25)).heap.size:=by simp
 generalize World.alloc w _=w1 at M I L
 go_loopw [1,12,13] (fun at_ o i wr=> ∃(j B:Nat) (ts:List Tr),j<=many/\at_= .int .i64 B/\i= .int .i64 j/\B<=s.size+2/\i9 (· < w.heap.size) w wr 25 o ts/\ts.length=j/\Ext w wr/\w.heap.size < wr.heap.size/\R=(Pe F s.data.toList last (many - j) B).map (fun x=>(ts++x.1,x.2))/\(j=many->B<=s.size)) (fun _ _ i _=> many -(intOf i).toNat)
 case atStart=> exact⟨0,a, [],bT _,rfl,rfl,ha,i9.lit I (aM _),rfl,M,L,by rw[HR.out];simp,by omega⟩
 case round=>
  obtain⟨j,B,ts,hj,rfl,rfl,ha',hG,di,hx,hsz,S0,l⟩:=hrel;have HE:=hdq S0;have fx:=hdq di;have htl4:ts.length<=4:=by omega
  clear di;obtain⟨U,co,rfl,Q4,hl2,S,-⟩:=hG.lies (fun b C=> C);clear S0;by_cases hlt:j < many
  · have uv:(j:Int) <(many:Int):=by omega
    have HND:=hdq l;clear l;go_wp2_with fail;refine(HI.out B wr ha').mono ?_;rintro e E ⟨t,u,nx,rfl,hF,e2,q1,q2⟩;obtain⟨r,n0,n,v,m,rfl⟩:=hF.three;have hs2:=e2.size;have T:=e2.trans ((xr E).alloc (.cells #[.int .i64 r,.int .i64 n0,.slice n v m] 25));cases z:F B with
    |none=>
     obtain rfl:=q2 z;have J1:R=none:=by
      rw[HE.out,show many - j=(many - j - 1)+1 by omega,yI z]
      rfl
     have O:=hdq J1;clear q1 q2 J1 z;go_wp2_with fail;go_ret2;exact⟨[],none,0,-1,rfl,aM _,bT _,.inl rfl,hx.trans T,(fun x hx=> by rw[O.out] at hx;cases hx),fun _=> rfl⟩
    |some y=>
     obtain⟨t',b⟩:=y;obtain⟨h1,h2,h3⟩:=q1 _ z;simp only at h1 h2 h3;subst h1 h2;have f:=HE.out;rw[show many - j=(many -(j+1))+1 by omega,ZE z] at f;clear q1 q2 z;have t0:decide ((b:Int) < 0)=false:=decide_eq_false (by omega);by_cases hlb:b < s.size
     · obtain⟨c,hc⟩: ∃c,s[b]=c:=⟨_,rfl⟩
       rw[Md hlb hc] at f;have hbz:(b:Int) <(s.size:Int):=by omega
       have t1:decide ((s.size:Int)<=(b:Int))=false:=decide_eq_false (by omega);obtain⟨p,V⟩: ∃p,c.toNat=p:=⟨_,rfl⟩;obtain⟨A,G⟩: ∃A:UInt8,A=if many -(j+1)=0 then last else 44:=⟨_,rfl⟩
       rw[<-G] at f;by_cases k:c=A
       · rw[if_pos (by rw[k])] at f
         have HST:=hdq f;have G5:=hG.ext T;have Be: ∀o',i9 (· < w.heap.size) w (E.alloc (.cells #[.int .i64 r,.int .i64 n0,.slice n v m] 25)) 25 o' ts->True:=fun _ _=> trivial
         have D: ∀g,(Value.slice U ts.length co).ownBlock=some g->g < wr.heap.size:=by
          obtain⟨xs,J,-⟩:=hG;exact fun g hg=>(J.lt g hg).2
         have ni:=hdq D;have P:=(hF.ext ((xr E).alloc (.cells #[.int .i64 r,.int .i64 n0,.slice n v m] 25))).ext ((xr _).alloc (.cells #[.int .i64 r,.int .i64 n0,.slice n v m] 25));have K:=G5.ext ((xr _).alloc (.cells #[.int .i64 r,.int .i64 n0,.slice n v m] 25));have vr:=heap_alloc_new (E.alloc (.cells #[.int .i64 r,.int .i64 n0,.slice n v m] 25)) (.cells #[.int .i64 r,.int .i64 n0,.slice n v m] 25);simp only[World.size_alloc] at vr;have hT:InT ((E.alloc (.cells #[.int .i64 r,.int .i64 n0,.slice n v m] 25)).alloc (.cells #[.int .i64 r,.int .i64 n0,.slice n v m] 25)) (fun b=> b <((E.alloc (.cells #[.int .i64 r,.int .i64 n0,.slice n v m] 25)).alloc (.cells #[.int .i64 r,.int .i64 n0,.slice n v m] 25)).heap.size/\(Value.slice U ts.length co).ownBlock≠some b/\ ¬(b < w.heap.size)) t (.agg #[.int .i64 r,.int .i64 n0,.slice n v m]):=P.mono (fun b C=>⟨C.2,fun h=> by have:=ni.out b h;omega,by omega⟩) (fun _ _=> rfl);have HT:=hdq hT;have HGX:=hdq K;have HW:=hdq G;clear f G hG G5 hT P hF D K Be S;have P6:(j+1 < many/\p=44/\((j:Int)+1==(many:Int))=false)\/(many<=j+1/\p=q/\((j:Int)+1==(many:Int))=true):=by
          rcases Nat.lt_or_ge (j+1) many with g|g
          · refine .inl ⟨g, ?_,by rw[beq_eq_false_iff_ne];omega⟩
            have:=k;rw[HW.out,if_neg (by omega)] at this;rw[<-V,this];rfl
          · refine .inr ⟨g, ?_,by rw[beq_iff_eq];omega⟩
            have:=k;rw[HW.out,if_pos (by omega)] at this;rw[<-V,this,Q.out]
         clear k;rcases P6 with⟨J,rfl,g3⟩ |⟨J,rfl,g3⟩
         all_goals(
          have gz:(j:Int)+1 <(many:Int)\/(many:Int)<=(j:Int)+1:=by omega
          have gd:decide ((j:Int)+1 <(many:Int))=decide (j+1 < many):=decide_eq_decide.2 (by omega);clear gz)
         all_goals(
          have h44:((44:Int) !=44)=false:=by decide
          go_wp2_with (at_builtin;refine BD _ rfl (.tmp 62) (.tmp 64) _ (by rfl) 25 i0 _ underlying23 hi hz0 hz1 hz2 rfl (by rfl) (X:=(· < w.heap.size)) (W:=w) (tr:=t) HGX.out (by simp;omega) HT.out (by rfl) vr (by omega) ?_ (fun b C=> C))
          intro v' w5 B9 x7;obtain⟨B5,c5,rfl,r1,r2,-,-⟩:=B9.lies (fun b C=> C);have O5:Ext w w5:=Below.trans (hx.trans (T.trans ((xr _).alloc (.cells #[.int .i64 r,.int .i64 n0,.slice n v m] 25)))) x7;have H:=x7.size;have Ai:=hdq B9;have Ey:w.heap.size < w5.heap.size:=by simp at H;omega
          clear B9 x7 H vr;go_wp2_with fail
          go_roundw
          case rel=> exact⟨j+1,b+1,ts++ [t],by omega,by go_num,by go_num,by omega,Ai.out,by rw[List.length_append,fx.out];rfl,O5,Ey,by rw[HST.out,Option.map_map];congr 1;funext x;simp,by omega⟩
          case measure=> simp[intOf];omega)
       · rw[if_neg (by intro h;cases h;exact k rfl)] at f
         have O:=hdq (show R=none from by rw[f];rfl);have P6:(j+1 < many/\((p:Int) !=44)=true)\/(many<=j+1/\((p:Int) !=(q:Int))=true/\((j:Int)+1==(many:Int))=true):=by
          rcases Nat.lt_or_ge (j+1) many with g|g
          · refine .inl ⟨g, ?_⟩
            rw[bne_iff_ne];intro h;rw[G,if_neg (by omega)] at k;exact k (UInt8.toNat_inj.1 (by rw[V];simp;omega))
          · refine .inr ⟨g, ?_,by rw[beq_iff_eq];omega⟩
            rw[bne_iff_ne];intro h;rw[G,if_pos (by omega)] at k;exact k (UInt8.toNat_inj.1 (by rw[V,Q.out];omega))
         clear f G k hG S;rcases P6 with⟨J,g2⟩ |⟨J,g2,g3⟩
         all_goals(
          go_wp2_with fail;go_ret2;exact⟨[],none,0,-1,rfl,aM _,bT _,.inl rfl,hx.trans T,(fun x hx=> by rw[O.out] at hx;cases hx),fun _=> rfl⟩)
     · rw[Po s (by omega),if_neg (by simp)] at f
       have O:=hdq (show R=none from by rw[f];rfl);have t1:decide ((s.size:Int)<=(b:Int))=true:=decide_eq_true (by omega);clear f hG S;go_wp2_with fail;go_ret2;exact⟨[],none,0,-1,rfl,aM _,bT _,.inl rfl,hx.trans T,(fun x hx=> by rw[O.out] at hx;cases hx),fun _=> rfl⟩
  · have Ae:j=many:=by omega
    have D3:R=some (ts,B):=by
     rw[HE.out,Ae,Nat.sub_self];simp[Pe]
    have N:=hdq D3;have Z:Mb w.heap.size wr U ts:=S.mono (fun b C=>⟨by omega,C.1⟩) (fun _ _=> rfl);have K5:=l Ae;clear D3 l S hG;go_wp2_with fail;go_ret2;refine⟨ts,U,co,(B:Int), ?_,Q4,hl2,Z,hx, ?_, ?_⟩
    · rfl
    · intro x hx
      rw[N.out] at hx;cases hx
      exact⟨rfl,rfl,K5⟩
    · intro hx
      rw[N.out] at hx;cases hx
end Go.Proofs.YtckhbnmfnpolgaaGreat
namespace Go.Proofs.YtckhbnmfnpolgaaGreat
def enc:M.Tm->Tr
 | .var n=> .mk 1 n []
 | .sort n=> .mk 2 n []
 | .pi A B=> .mk 3 0 [enc A,enc B]
 | .lam A t=> .mk 4 0 [enc A,enc t]
 | .app f a=> .mk 5 0 [enc f,enc a]
 | .nat=> .mk 6 0 []
 | .zero=> .mk 7 0 []
 | .succ a=> .mk 8 0 [enc a]
 | .elim p z s a=> .mk 9 0 [enc p,enc z,enc s,enc a]
 | .id T a b=> .mk 10 0 [enc T,enc a,enc b]
 | .refl a=> .mk 11 0 [enc a]
 | .move p e a=> .mk 12 0 [enc p,enc e,enc a]
 | .sg A B=> .mk 13 0 [enc A,enc B]
 | .pair T a b=> .mk 14 0 [enc T,enc a,enc b]
 | .fst a=> .mk 15 0 [enc a]
 | .snd a=> .mk 16 0 [enc a]
def so(y c n:Nat):Nat:=if c<=n then n+y else n
theorem It(y c:Nat):M.Tm.upr (so y c)=so y (c+1):=by
 funext n
 cases n with
 |zero=> simp[M.Tm.upr,so]
 |succ n=>
  show so y c n+1=_
  unfold so;by_cases h:c<=n
  · rw[if_pos h,if_pos (by omega)];omega
  · rw[if_neg h,if_neg (by omega)]
theorem km(y:Nat): ∀(t:M.Tm) (c:Nat),shfT (y:Int) (enc t) (c:Int)=enc (t.ren (so y c)):=by
 have d: ∀(k:Int) (c:Nat),(c:Int)+E4 k 0=(c:Int):=fun k c=> by simp[E4]
 intro t
 induction t with
 |var n=>
  intro c;simp only[enc,M.Tm.ren,shfT,n8,so];by_cases h:c<=n
  · rw[if_pos ⟨trivial,by omega⟩,if_pos h];congr 1
  · rw[if_neg (fun e=> h (by omega)),if_neg h]
 |pi A B b a=>
  intro c;simp only[enc,M.Tm.ren,shfT,n8,d,b,It];rw[show(c:Int)+E4 3 (0+1)=((c+1:Nat):Int) from rfl,a]
  rfl
 |lam A B b a=>
  intro c;simp only[enc,M.Tm.ren,shfT,n8,d,b,It];rw[show(c:Int)+E4 4 (0+1)=((c+1:Nat):Int) from rfl,a]
  rfl
 |sg A B b a=>
  intro c;simp only[enc,M.Tm.ren,shfT,n8,d,b,It];rw[show(c:Int)+E4 13 (0+1)=((c+1:Nat):Int) from rfl,a]
  rfl
 |_=> intro c;simp_all [enc,M.Tm.ren,shfT,n8,E4]
def yd(u:M.Tm)(k n:Nat):M.Tm:=if n=k then u.ren (fun i=> i+k) else if k < n then .var (n - 1) else .var n
theorem EE(u:M.Tm):yd u 0=M.Tm.cns u M.Tm.var:=by
 funext n
 cases n with
 |zero=> simp[yd,M.Tm.cns,M.Tm.ren_id]
 |succ n=> simp[yd,M.Tm.cns]
theorem Yr(u:M.Tm)(k:Nat):M.Tm.ups (yd u k)=yd u (k+1):=by
 funext n
 cases n with
 |zero=> simp[M.Tm.ups,yd]
 |succ n=>
  show M.Tm.wk (yd u k n)=yd u (k+1) (n+1)
  by_cases h:n=k
  · have a:yd u k n=u.ren (fun i=> i+k):=if_pos h
    have b:yd u (k+1) (n+1)=u.ren (fun i=> i+(k+1)):=if_pos (by omega);rw[a,b,M.Tm.wk,M.Tm.ren_ren];rfl
  · by_cases c:k < n
    · have a:yd u k n= .var (n - 1):=by unfold yd;rw[if_neg h,if_pos c]
      have b:yd u (k+1) (n+1)= .var n:=by unfold yd;rw[if_neg (by omega),if_pos (by omega)];rfl
      rw[a,b]
      show M.Tm.var (n - 1+1)=_
      congr 1
      omega
    · have a:yd u k n= .var n:=by unfold yd;rw[if_neg h,if_neg c]
      have b:yd u (k+1) (n+1)= .var (n+1):=by unfold yd;rw[if_neg (by omega),if_neg (by omega)]
      rw[a,b];rfl
theorem Lr(k:Nat):so k 0=fun i=> i+k:=by funext i;simp[so]
theorem Yl(u:M.Tm): ∀(t:M.Tm) (k:Nat),Q0 (enc u) (enc t) (k:Int) (k:Int)=enc (t.sub (yd u k)):=by
 have f: ∀(k:Int) (c:Nat),(c:Int)+E4 k 0=(c:Int):=fun k c=> by simp[E4]
 intro t
 induction t with
 |var n=>
  intro k;simp only[enc,M.Tm.sub,Q0,K8,yd];by_cases h:n=k
  · rw[if_pos ⟨trivial,by omega⟩,if_pos h,<-Lr]
    exact km k u 0
  · rw[if_neg (fun e=> h (by omega)),if_neg h]
    by_cases d:k < n
    · rw[if_pos ⟨trivial,by omega⟩,if_pos d]
      simp only[enc]
      congr 1
      omega
    · rw[if_neg (fun e=> d (by omega)),if_neg d];rfl
 |pi A B b a=>
  intro c;simp only[enc,M.Tm.sub,Q0,K8,f,b,Yr];rw[show(c:Int)+E4 3 (0+1)=((c+1:Nat):Int) from rfl,a]
  rfl
 |lam A B b a=>
  intro c;simp only[enc,M.Tm.sub,Q0,K8,f,b,Yr];rw[show(c:Int)+E4 4 (0+1)=((c+1:Nat):Int) from rfl,a]
  rfl
 |sg A B b a=>
  intro c;simp only[enc,M.Tm.sub,Q0,K8,f,b,Yr];rw[show(c:Int)+E4 13 (0+1)=((c+1:Nat):Int) from rfl,a]
  rfl
 |_=> intro c;simp_all [enc,M.Tm.sub,Q0,K8,E4]
theorem xo(t u:M.Tm):Q0 (enc u) (enc t) 0 0=enc (t.inst u):=by
 have:=Yl u t 0;rw[EE] at this;exact this
theorem be: ∀{t u:M.Tm},enc t=enc u->t=u:=by
 intro t
 induction t <;> intro u h <;> cases u <;> simp[enc] at h⊢ <;> first|omega|(obtain⟨a,b,c,d⟩:=h;refine⟨?_, ?_, ?_, ?_⟩ <;> solve_by_elim) |(obtain⟨a,b,c⟩:=h;refine⟨?_, ?_, ?_⟩ <;> solve_by_elim) |(obtain⟨a,b⟩:=h;refine⟨?_, ?_⟩ <;> solve_by_elim) |solve_by_elim
theorem Xr: ∀(t:Tr) (d:Int),D0 m0 t d=true-> ∃m,enc m=t:=Tr.ind fun k n f ih=> by
 intro d h;obtain⟨j,q,p,l⟩:=Z4 h;have o:O0 k=(f.length:Int):=j;have i:n<=Ja k:=p;have e: ∀t∈f,∃m,enc m=t:=fun t ht=> ih t ht _ (l t ht)
 have g:k≠1->k≠2->n=0:=fun a b=> by unfold Ja at i;rw[if_neg a,if_neg b] at i;omega
 rcases ZD o with rfl|rfl|rfl|rfl|rfl|rfl|rfl|rfl|rfl|rfl|rfl|rfl|rfl|rfl|rfl|rfl
 · have:f= []:=aZ (by have:O0 1=0:=rfl;omega)
   subst this;exact⟨.var n.toNat,by unfold enc;congr 1;omega⟩
 · have:f= []:=aZ (by have:O0 2=0:=rfl;omega)
   subst this;exact⟨.sort n.toNat,by unfold enc;congr 1;omega⟩
 · obtain rfl:=g (by decide) (by decide)
   match f,(show f.length=2 by have:O0 3=2:=rfl;omega),e with
   | [x,y],_,e=>
    obtain⟨a,rfl⟩:=e x (by simp);obtain⟨b,rfl⟩:=e y (by simp);exact⟨.pi a b,rfl⟩
 · obtain rfl:=g (by decide) (by decide)
   match f,(show f.length=2 by have:O0 4=2:=rfl;omega),e with
   | [x,y],_,e=>
    obtain⟨a,rfl⟩:=e x (by simp);obtain⟨b,rfl⟩:=e y (by simp);exact⟨.lam a b,rfl⟩
 · obtain rfl:=g (by decide) (by decide)
   match f,(show f.length=2 by have:O0 5=2:=rfl;omega),e with
   | [x,y],_,e=>
    obtain⟨a,rfl⟩:=e x (by simp);obtain⟨b,rfl⟩:=e y (by simp);exact⟨.app a b,rfl⟩
 · obtain rfl:=g (by decide) (by decide)
   match f,(show f.length=0 by have:O0 6=0:=rfl;omega),e with
   | [],_,e=>
    exact⟨.nat,rfl⟩
 · obtain rfl:=g (by decide) (by decide)
   match f,(show f.length=0 by have:O0 7=0:=rfl;omega),e with
   | [],_,e=>
    exact⟨.zero,rfl⟩
 · obtain rfl:=g (by decide) (by decide)
   match f,(show f.length=1 by have:O0 8=1:=rfl;omega),e with
   | [x],_,e=>
    obtain⟨a,rfl⟩:=e x (by simp);exact⟨.succ a,rfl⟩
 · obtain rfl:=g (by decide) (by decide)
   match f,(show f.length=4 by have:O0 9=4:=rfl;omega),e with
   | [x,y,u,v],_,e=>
    obtain⟨a,rfl⟩:=e x (by simp);obtain⟨b,rfl⟩:=e y (by simp);obtain⟨c,rfl⟩:=e u (by simp);obtain⟨d,rfl⟩:=e v (by simp);exact⟨.elim a b c d,rfl⟩
 · obtain rfl:=g (by decide) (by decide)
   match f,(show f.length=3 by have:O0 10=3:=rfl;omega),e with
   | [x,y,u],_,e=>
    obtain⟨a,rfl⟩:=e x (by simp);obtain⟨b,rfl⟩:=e y (by simp);obtain⟨c,rfl⟩:=e u (by simp);exact⟨.id a b c,rfl⟩
 · obtain rfl:=g (by decide) (by decide)
   match f,(show f.length=1 by have:O0 11=1:=rfl;omega),e with
   | [x],_,e=>
    obtain⟨a,rfl⟩:=e x (by simp);exact⟨.refl a,rfl⟩
 · obtain rfl:=g (by decide) (by decide)
   match f,(show f.length=3 by have:O0 12=3:=rfl;omega),e with
   | [x,y,u],_,e=>
    obtain⟨a,rfl⟩:=e x (by simp);obtain⟨b,rfl⟩:=e y (by simp);obtain⟨c,rfl⟩:=e u (by simp);exact⟨.move a b c,rfl⟩
 · obtain rfl:=g (by decide) (by decide)
   match f,(show f.length=2 by have:O0 13=2:=rfl;omega),e with
   | [x,y],_,e=>
    obtain⟨a,rfl⟩:=e x (by simp);obtain⟨b,rfl⟩:=e y (by simp);exact⟨.sg a b,rfl⟩
 · obtain rfl:=g (by decide) (by decide)
   match f,(show f.length=3 by have:O0 14=3:=rfl;omega),e with
   | [x,y,u],_,e=>
    obtain⟨a,rfl⟩:=e x (by simp);obtain⟨b,rfl⟩:=e y (by simp);obtain⟨c,rfl⟩:=e u (by simp);exact⟨.pair a b c,rfl⟩
 · obtain rfl:=g (by decide) (by decide)
   match f,(show f.length=1 by have:O0 15=1:=rfl;omega),e with
   | [x],_,e=>
    obtain⟨a,rfl⟩:=e x (by simp);exact⟨.fst a,rfl⟩
 · obtain rfl:=g (by decide) (by decide)
   match f,(show f.length=1 by have:O0 16=1:=rfl;omega),e with
   | [x],_,e=>
    obtain⟨a,rfl⟩:=e x (by simp);exact⟨.snd a,rfl⟩
theorem Pm{t o:M.Tm}(h:M.Par t o):Par (enc t) (enc o):=by
 induction h with
 |var n=> exact Par.refl _
 |sort n=> exact Par.refl _
 |nat=> exact Par.refl _
 |zero=> exact Par.refl _
 | @beta A b r a l e f c d=>
  have h:=Par.red (k:=5) (n:=0) (ks:= [enc (.lam A b),enc a]) (by simp[rdx,kd,Tr.kind,enc]) (.cons (.node (k:=4) (n:=0) (.cons (Par.refl (enc A)) (.cons c .nil))) (.cons d .nil));rw[<-xo];exact h
 | @ez p z u s h i=> exact Par.red (k:=9) (n:=0) (ks:= [enc p,enc z,enc s,enc .zero]) (by simp[rdx,kd,Tr.kind,enc]) (.cons (Par.refl _) (.cons i (.cons (Par.refl _) (.cons (Par.refl _) .nil))))
 | @es p w z u s v a l e f j q c d g m=> exact Par.red (k:=9) (n:=0) (ks:= [enc p,enc z,enc s,enc (.succ a)]) (by simp[rdx,kd,Tr.kind,enc]) (.cons c (.cons d (.cons g (.cons (.node (k:=8) (n:=0) (.cons m .nil)) .nil))))
 | @mr p b a l h i=> exact Par.red (k:=12) (n:=0) (ks:= [enc p,enc (.refl b),enc a]) (by simp[rdx,kd,Tr.kind,enc]) (.cons (Par.refl _) (.cons (Par.refl _) (.cons i .nil)))
 | @fp T a l b h i=> exact Par.red (k:=15) (n:=0) (ks:= [enc (.pair T a b)]) (by simp[rdx,kd,Tr.kind,enc]) (.cons (.node (k:=14) (n:=0) (.cons (Par.refl _) (.cons i (.cons (Par.refl _) .nil)))) .nil)
 | @sp T a b r h i=> exact Par.red (k:=16) (n:=0) (ks:= [enc (.pair T a b)]) (by simp[rdx,kd,Tr.kind,enc]) (.cons (.node (k:=14) (n:=0) (.cons (Par.refl _) (.cons (Par.refl _) (.cons i .nil)))) .nil)
 |elim e f j q c d g m=> exact .node (.cons c (.cons d (.cons g (.cons m .nil))))
 |pi e f c d=> exact .node (.cons c (.cons d .nil))
 |lam e f c d=> exact .node (.cons c (.cons d .nil))
 |app e f c d=> exact .node (.cons c (.cons d .nil))
 |sg e f c d=> exact .node (.cons c (.cons d .nil))
 |id e f j c d g=> exact .node (.cons c (.cons d (.cons g .nil)))
 |move e f j c d g=> exact .node (.cons c (.cons d (.cons g .nil)))
 |pair e f j c d g=> exact .node (.cons c (.cons d (.cons g .nil)))
 |succ h i=> exact .node (.cons i .nil)
 |refl h i=> exact .node (.cons i .nil)
 |fst h i=> exact .node (.cons i .nil)
 |snd h i=> exact .node (.cons i .nil)
theorem WB{t a:M.Tm}(h:M.Red t a):m7 (enc t) (enc a):=by
 induction h with
 |refl=> exact .refl _
 |step b _ ih=> exact(m7.one (Pm b)).trans ih
theorem Yo: ∀{t:M.Tm} {l:Tr},Par (enc t) l-> ∃m,l=enc m/\M.Par t m:=by
 have no: ∀{k:Int} {H:List Tr},rdx k H≠0->k=5\/k=9\/k=12\/k=15\/k=16:=by
  intro k H h;by_cases w:k=5
  · exact .inl w
  by_cases C:k=9
  · exact .inr (.inl C)
  by_cases F:k=12
  · exact .inr (.inr (.inl F))
  by_cases x:k=15
  · exact .inr (.inr (.inr (.inl x)))
  by_cases z:k=16
  · exact .inr (.inr (.inr (.inr z)))
  exact absurd (Sl w C F x z) h
 intro t
 induction t with
 |var n=> intro l h;cases h with
  |node h=> cases h;exact⟨.var n,rfl,.var n⟩
  |red h=> exact absurd (no h) (by decide)
 |sort n=> intro l h;cases h with
  |node h=> cases h;exact⟨.sort n,rfl,.sort n⟩
  |red h=> exact absurd (no h) (by decide)
 |nat=> intro l h;cases h with
  |node h=> cases h;exact⟨.nat,rfl,.nat⟩
  |red h=> exact absurd (no h) (by decide)
 |zero=> intro l h;cases h with
  |node h=> cases h;exact⟨.zero,rfl,.zero⟩
  |red h=> exact absurd (no h) (by decide)
 |pi A B g o=> intro l h;cases h with
  |node h=>
   cases h with
   |cons e h=>
   cases h with
   |cons j h=>
   cases h
   obtain⟨a,rfl,f⟩:=g e;obtain⟨b,rfl,i⟩:=o j;exact⟨.pi a b,rfl,.pi f i⟩
  |red h=> exact absurd (no h) (by decide)
 |lam A B g o=> intro l h;cases h with
  |node h=>
   cases h with
   |cons e h=>
   cases h with
   |cons j h=>
   cases h
   obtain⟨a,rfl,f⟩:=g e;obtain⟨b,rfl,i⟩:=o j;exact⟨.lam a b,rfl,.lam f i⟩
  |red h=> exact absurd (no h) (by decide)
 |sg A B g o=> intro l h;cases h with
  |node h=>
   cases h with
   |cons e h=>
   cases h with
   |cons j h=>
   cases h
   obtain⟨a,rfl,f⟩:=g e;obtain⟨b,rfl,i⟩:=o j;exact⟨.sg a b,rfl,.sg f i⟩
  |red h=> exact absurd (no h) (by decide)
 |id A B D g o r=> intro l h;cases h with
  |node h=>
   cases h with
   |cons e h=>
   cases h with
   |cons j h=>
   cases h with
   |cons p h=>
   cases h
   obtain⟨a,rfl,f⟩:=g e;obtain⟨b,rfl,i⟩:=o j;obtain⟨c,rfl,q⟩:=r p;exact⟨.id a b c,rfl,.id f i q⟩
  |red h=> exact absurd (no h) (by decide)
 |pair A B D g o r=> intro l h;cases h with
  |node h=>
   cases h with
   |cons e h=>
   cases h with
   |cons j h=>
   cases h with
   |cons p h=>
   cases h
   obtain⟨a,rfl,f⟩:=g e;obtain⟨b,rfl,i⟩:=o j;obtain⟨c,rfl,q⟩:=r p;exact⟨.pair a b c,rfl,.pair f i q⟩
  |red h=> exact absurd (no h) (by decide)
 |succ A g=> intro l h;cases h with
  |node h=>
   cases h with
   |cons e h=>
   cases h
   obtain⟨a,rfl,f⟩:=g e;exact⟨.succ a,rfl,.succ f⟩
  |red h=> exact absurd (no h) (by decide)
 |refl A g=> intro l h;cases h with
  |node h=>
   cases h with
   |cons e h=>
   cases h
   obtain⟨a,rfl,f⟩:=g e;exact⟨.refl a,rfl,.refl f⟩
  |red h=> exact absurd (no h) (by decide)
 |app A B g o=> intro l h;cases h with
  |node h=>
   cases h with
   |cons e h=>
   cases h with
   |cons j h=>
   cases h
   obtain⟨a,rfl,f⟩:=g e;obtain⟨b,rfl,i⟩:=o j;exact⟨.app a b,rfl,.app f i⟩
  |red hr h=>
   cases h with
   |cons e h=>
   cases h with
   |cons j h=>
   cases h
   obtain⟨a,rfl,f⟩:=g e;obtain⟨b,rfl,i⟩:=o j;cases A <;> simp[rdx,kd,Tr.kind,enc] at hr
   cases f with
   |lam G u=> exact⟨_,by show Q0 (enc b) (enc _) 0 0=_;exact xo _ _,.beta u i⟩
 |fst A g=> intro l h;cases h with
  |node h=>
   cases h with
   |cons e h=>
   cases h
   obtain⟨a,rfl,f⟩:=g e;exact⟨.fst a,rfl,.fst f⟩
  |red hr h=>
   cases h with
   |cons e h=>
   cases h
   obtain⟨a,rfl,f⟩:=g e;cases A <;> simp[rdx,kd,Tr.kind,enc] at hr
   cases f with
   |pair G u y=> exact⟨_,rfl,.fp u⟩
 |snd A g=> intro l h;cases h with
  |node h=>
   cases h with
   |cons e h=>
   cases h
   obtain⟨a,rfl,f⟩:=g e;exact⟨.snd a,rfl,.snd f⟩
  |red hr h=>
   cases h with
   |cons e h=>
   cases h
   obtain⟨a,rfl,f⟩:=g e;cases A <;> simp[rdx,kd,Tr.kind,enc] at hr
   cases f with
   |pair G u y=> exact⟨_,rfl,.sp y⟩
 |move A B D g o r=> intro l h;cases h with
  |node h=>
   cases h with
   |cons e h=>
   cases h with
   |cons j h=>
   cases h with
   |cons p h=>
   cases h
   obtain⟨a,rfl,f⟩:=g e;obtain⟨b,rfl,i⟩:=o j;obtain⟨c,rfl,q⟩:=r p;exact⟨.move a b c,rfl,.move f i q⟩
  |red hr h=>
   cases h with
   |cons e h=>
   cases h with
   |cons j h=>
   cases h with
   |cons p h=>
   cases h
   obtain⟨c,rfl,q⟩:=r p;cases B <;> simp[rdx,kd,Tr.kind,enc] at hr
   exact⟨c,rfl,.mr q⟩
 |elim A B D E g o r I=> intro l h;cases h with
  |node h=>
   cases h with
   |cons e h=>
   cases h with
   |cons j h=>
   cases h with
   |cons p h=>
   cases h with
   |cons v h=>
   cases h
   obtain⟨a,rfl,f⟩:=g e;obtain⟨b,rfl,i⟩:=o j;obtain⟨c,rfl,q⟩:=r p;obtain⟨d,rfl,s⟩:=I v;exact⟨.elim a b c d,rfl,.elim f i q s⟩
  |red hr h=>
   cases h with
   |cons e h=>
   cases h with
   |cons j h=>
   cases h with
   |cons p h=>
   cases h with
   |cons v h=>
   cases h
   obtain⟨a,rfl,f⟩:=g e;obtain⟨b,rfl,i⟩:=o j;obtain⟨c,rfl,q⟩:=r p;obtain⟨d,rfl,s⟩:=I v;cases E <;> simp[rdx,kd,Tr.kind,enc] at hr
   · cases s
     exact⟨b,rfl,.ez i⟩
   · cases s with
     |succ J=> exact⟨_,rfl,.es f i q J⟩
theorem AB{a u:Tr}(h:m7 u a): ∀{t:M.Tm},u=enc t-> ∃m,a=enc m/\M.Red t m:=by
 induction h with
 |refl=> intro t e;exact⟨t,e,.refl t⟩
 |step j i ih=>
  intro t e;obtain⟨m,b,d⟩:=ih e;subst b;obtain⟨g,f,c⟩:=Yo i;exact⟨g,f,d.trans (.one c)⟩
end Go.Proofs.YtckhbnmfnpolgaaGreat
namespace Go.Proofs.YtckhbnmfnpolgaaGreat
open Go.RowKit
theorem rC{w b:aK}{a:Obj}(h:b=w.alloc a):b.heap[w.heap.size]? =some a/\w.heap.size < b.heap.size/\Ext w b:=by
 subst h;obtain⟨p,s⟩:=Td (xr (w.alloc a));exact⟨p,s,(xr w).alloc a⟩
theorem box2{w c:aK}{a b:Obj}(h:c=(w.alloc a).alloc b):c.heap[w.heap.size]? =some a/\c.heap[w.heap.size+1]? =some b/\w.heap.size+1 < c.heap.size/\Ext w c:=by
 subst h;obtain⟨p,q,s⟩:=W3 (xr ((w.alloc a).alloc b));exact⟨p,q,s,((xr w).alloc a).alloc b⟩
theorem xg{w d:aK}{a b c:Obj}(h:d=((w.alloc a).alloc b).alloc c):d.heap[w.heap.size]? =some a/\d.heap[w.heap.size+1]? =some b/\d.heap[w.heap.size+1+1]? =some c/\w.heap.size+1+1 < d.heap.size/\Ext w d:=by
 subst h;obtain⟨p,q,r,s⟩:=mc (xr (((w.alloc a).alloc b).alloc c));exact⟨p,q,r,s,(((xr w).alloc a).alloc b).alloc c⟩
theorem jB{w e:aK}{a b c d:Obj}(h:e=(((w.alloc a).alloc b).alloc c).alloc d):e.heap[w.heap.size]? =some a/\e.heap[w.heap.size+1]? =some b/\e.heap[w.heap.size+1+1]? =some c/\e.heap[w.heap.size+1+1+1]? =some d/\w.heap.size+1+1+1 < e.heap.size/\Ext w e:=by
 subst h;obtain⟨p,q,r,t,s⟩:=jn (xr ((((w.alloc a).alloc b).alloc c).alloc d));exact⟨p,q,r,t,s,((((xr w).alloc a).alloc b).alloc c).alloc d⟩
theorem KC{w:aK}{g:Nat}{b:aS}{e:aY}(a:w.heap[g]? =some (.cells #[b] e (0,0))):w.cell? ⟨g,0,none⟩=some b/\g < w.heap.size:=⟨i1 a 0,O1 a⟩
theorem cb3{w:aK}{g:Nat}{d b c:aS}{e:aY}(a:w.heap[g]? =some (.cells #[d,b,c] e (0,0))):w.cell? ⟨g,0,none⟩=some d/\w.cell? ⟨g,1,none⟩=some b/\w.cell? ⟨g,2,none⟩=some c/\g < w.heap.size:=⟨i1 a 0,i1 a 1,i1 a 2,O1 a⟩
theorem Kt{w:aK}{g:Nat}{i c f d b:aS}{e:aY}(a:w.heap[g]? =some (.cells #[i,c,f,d,b] e (0,0))):w.cell? ⟨g,0,none⟩=some i/\w.cell? ⟨g,1,none⟩=some c/\w.cell? ⟨g,2,none⟩=some f/\w.cell? ⟨g,3,none⟩=some d/\w.cell? ⟨g,4,none⟩=some b/\g < w.heap.size:=⟨i1 a 0,i1 a 1,i1 a 2,i1 a 3,i1 a 4,O1 a⟩
theorem BB{w:aK}{g:Nat}{j c i f b d:aS}{e:aY}(a:w.heap[g]? =some (.cells #[j,c,i,f,b,d] e (0,0))):w.cell? ⟨g,0,none⟩=some j/\w.cell? ⟨g,1,none⟩=some c/\w.cell? ⟨g,2,none⟩=some i/\w.cell? ⟨g,3,none⟩=some f/\w.cell? ⟨g,4,none⟩=some b/\w.cell? ⟨g,5,none⟩=some d/\g < w.heap.size:=⟨i1 a 0,i1 a 1,i1 a 2,i1 a 3,i1 a 4,i1 a 5,O1 a⟩
theorem cbn{w:aK}{g:Nat}{c a b:aS}{e:aY}(d:w.heap[g]? =some (.cells #[c,a,b] e (0,0))):
 w.cell? ⟨g,0,none⟩=some c/\w.cell? ⟨g,1,none⟩=some a/\w.cell? ⟨g,2,none⟩=some b/\w.frozen? ⟨g,0,none⟩=false/\w.frozen? ⟨g,1,none⟩=false/\w.frozen? ⟨g,2,none⟩=false:=own3 d
theorem Z9{w:aK}{g:Nat}{d b c:aS}{e:aY}(a:w.heap[g]? =some (.cells #[d,b,c] e (0,0))):
 w.cell? ⟨g,0,none⟩=some d/\w.cell? ⟨g,1,none⟩=some b/\w.cell? ⟨g,2,none⟩=some c/\w.frozen? ⟨g,0,none⟩=false/\w.frozen? ⟨g,1,none⟩=false/\w.frozen? ⟨g,2,none⟩=false/\g < w.heap.size:=
 ⟨i1 a 0,i1 a 1,i1 a 2,Ob a 0,Ob a 1,Ob a 2,O1 a⟩
theorem Ext.set3{a b:aK}(h:Ext a b){g:Nat}(c:a.heap.size<=g)(x y z:aS):Ext a (((b.setCell ⟨g,0,none⟩ x).setCell ⟨g,1,none⟩ y).setCell ⟨g,2,none⟩ z):=((h.setCell c x).setCell c y).setCell c z
theorem yC{k n:Int}{b:List Tr}{d:Int}(h:D0 m0 (.mk k n b) d=true):(O0 k=(b.length:Int))/\(k=1\/k=2\/k=3\/k=4\/k=5\/k=6\/k=7\/k=8\/k=9\/k=10\/k=11\/k=12\/k=13\/k=14\/k=15\/k=16):=by
 obtain⟨a,e,f,c⟩:=Qu h;simp only[m0] at a;have hr:1<=k/\k<=16:=by
  by_cases h:1<=k/\k<=16
  · exact h
  · exfalso
    unfold O0 at a;rw[if_neg (by omega),if_neg (by omega),if_neg (by omega),if_neg (by omega),if_neg (by omega),if_neg (by omega),if_neg (by omega),if_neg (by omega),if_neg (by omega),if_neg (by omega),if_neg (by omega),if_neg (by omega),if_neg (by omega),if_neg (by omega),if_neg (by omega),if_neg (by omega)] at a;omega
 exact⟨a,by omega⟩
theorem Od{a:List Tr}{j:Nat}{t:Tr}(b:j < a.length)(h:a[j]=t):kd a j=t:=by
 unfold kd;rw[List.getD_eq_getElem?_getD,List.getElem?_eq_getElem b];exact h
theorem Sq(t:Tr)(d:Int)(hsh:D0 m0 t d=true)(w:aK)(v:aS)(E:Lies w t v):Calls prog 133 #[v] w fun e G=> e= .returned (.int .i64 (U3 t))/\Ext w G:=by
 obtain⟨k,n,a⟩:=t;obtain⟨A,cap,rfl,hl,hc,hK⟩:=Lies.mk_iff.1 E;obtain⟨g,hk⟩:=yC hsh;unfold maxLen at hc;clear hsh E;rcases hk with rfl|rfl|rfl|rfl|rfl|rfl|rfl|rfl|rfl|rfl|rfl|rfl|rfl|rfl|rfl|rfl
 · rw[show U3 (.mk 1 n a)=0 from rfl]
   clear g hK;go_enter func133,ntmps133;go_wp2_with fail;go_ret;exact⟨rfl,(xr _).alloc _⟩
 · rw[show U3 (.mk 2 n a)=0 from rfl]
   clear g hK;go_enter func133,ntmps133;go_wp2_with fail;go_ret;exact⟨rfl,(xr _).alloc _⟩
 · rw[show U3 (.mk 3 n a)=0 from rfl]
   clear g hK;go_enter func133,ntmps133;go_wp2_with fail;go_ret;exact⟨rfl,(xr _).alloc _⟩
 · rw[show U3 (.mk 4 n a)=0 from rfl]
   clear g hK;go_enter func133,ntmps133;go_wp2_with fail;go_ret;exact⟨rfl,(xr _).alloc _⟩
 · have c:a.length=2:=by have:(2:Int)=(a.length:Int):=g;omega
   have s:(0:Int) <(a.length:Int):=by omega
   obtain⟨b,o,f,q,z,m,kids,rfl,hid,u,r,x,-,-,-,-,-⟩:=hK.get ((xr w).alloc (.cells #[.int .i64 5,.int .i64 n,.slice A a.length cap] 25)) (j:=0) (by omega);simp only[cT,cQ] at u;clear r x;have p:kd a 0= .mk f q kids:=Od (by omega) hid.out;have l:U3 (.mk 5 n a)=if f=4 then 1 else 0:=by show rdx 5 a=_;unfold rdx;rw[p];rfl
   rw[l];clear l p hid g hK c;by_cases C:f=4
   · subst C
     rw[if_pos rfl];go_enter func133,ntmps133;go_wp2_with fail;go_ret;exact⟨rfl,(xr _).alloc _⟩
   have K:(f==4)=false:=beq_eq_false_iff_ne.2 C;rw[if_neg C];go_enter func133,ntmps133;go_wp2_with fail;go_ret;exact⟨rfl,(xr _).alloc _⟩
 · rw[show U3 (.mk 6 n a)=0 from rfl]
   clear g hK;go_enter func133,ntmps133;go_wp2_with fail;go_ret;exact⟨rfl,(xr _).alloc _⟩
 · rw[show U3 (.mk 7 n a)=0 from rfl]
   clear g hK;go_enter func133,ntmps133;go_wp2_with fail;go_ret;exact⟨rfl,(xr _).alloc _⟩
 · rw[show U3 (.mk 8 n a)=0 from rfl]
   clear g hK;go_enter func133,ntmps133;go_wp2_with fail;go_ret;exact⟨rfl,(xr _).alloc _⟩
 · have c:a.length=4:=by have:(4:Int)=(a.length:Int):=g;omega
   have s:(3:Int) <(a.length:Int):=by omega
   obtain⟨b,o,f,q,z,m,kids,rfl,hid,u,r,x,-,-,-,-,-⟩:=hK.get ((xr w).alloc (.cells #[.int .i64 9,.int .i64 n,.slice A a.length cap] 25)) (j:=3) (by omega);simp only[eU] at u;clear r x;have p:kd a 3= .mk f q kids:=Od (by omega) hid.out;have l:U3 (.mk 9 n a)=if f=7 then 2 else if f=8 then 3 else 0:=by show rdx 9 a=_;unfold rdx;rw[p];rfl
   rw[l];clear l p hid g hK c;by_cases B:f=7
   · subst B
     rw[if_pos rfl];go_enter func133,ntmps133;go_wp2_with fail;go_ret;exact⟨rfl,(xr _).alloc _⟩
   by_cases D:f=8
   · subst D
     rw[if_neg (by decide),if_pos rfl];go_enter func133,ntmps133;go_wp2_with fail;go_ret;exact⟨rfl,(xr _).alloc _⟩
   have J:(f==7)=false:=beq_eq_false_iff_ne.2 B;have I:(f==8)=false:=beq_eq_false_iff_ne.2 D;rw[if_neg B,if_neg D];go_enter func133,ntmps133;go_wp2_with fail;go_ret;exact⟨rfl,(xr _).alloc _⟩
 · rw[show U3 (.mk 10 n a)=0 from rfl]
   clear g hK;go_enter func133,ntmps133;go_wp2_with fail;go_ret;exact⟨rfl,(xr _).alloc _⟩
 · rw[show U3 (.mk 11 n a)=0 from rfl]
   clear g hK;go_enter func133,ntmps133;go_wp2_with fail;go_ret;exact⟨rfl,(xr _).alloc _⟩
 · have c:a.length=3:=by have:(3:Int)=(a.length:Int):=g;omega
   have s:(1:Int) <(a.length:Int):=by omega
   obtain⟨b,o,f,q,z,m,kids,rfl,hid,u,r,x,-,-,-,-,-⟩:=hK.get ((xr w).alloc (.cells #[.int .i64 12,.int .i64 n,.slice A a.length cap] 25)) (j:=1) (by omega);simp only[eU] at u;clear r x;have p:kd a 1= .mk f q kids:=Od (by omega) hid.out;have l:U3 (.mk 12 n a)=if f=11 then 4 else 0:=by show rdx 12 a=_;unfold rdx;rw[p];rfl
   rw[l];clear l p hid g hK c;by_cases y:f=11
   · subst y
     rw[if_pos rfl];go_enter func133,ntmps133;go_wp2_with fail;go_ret;exact⟨rfl,(xr _).alloc _⟩
   have H:(f==11)=false:=beq_eq_false_iff_ne.2 y;rw[if_neg y];go_enter func133,ntmps133;go_wp2_with fail;go_ret;exact⟨rfl,(xr _).alloc _⟩
 · rw[show U3 (.mk 13 n a)=0 from rfl]
   clear g hK;go_enter func133,ntmps133;go_wp2_with fail;go_ret;exact⟨rfl,(xr _).alloc _⟩
 · rw[show U3 (.mk 14 n a)=0 from rfl]
   clear g hK;go_enter func133,ntmps133;go_wp2_with fail;go_ret;exact⟨rfl,(xr _).alloc _⟩
 · have c:a.length=1:=by have:(1:Int)=(a.length:Int):=g;omega
   have s:(0:Int) <(a.length:Int):=by omega
   obtain⟨b,o,f,q,z,m,kids,rfl,hid,u,r,x,-,-,-,-,-⟩:=hK.get ((xr w).alloc (.cells #[.int .i64 15,.int .i64 n,.slice A a.length cap] 25)) (j:=0) (by omega);simp only[cT,cQ] at u;clear r x;have p:kd a 0= .mk f q kids:=Od (by omega) hid.out;have l:U3 (.mk 15 n a)=if f=14 then 5 else 0:=by show rdx 15 a=_;unfold rdx;rw[p];rfl
   rw[l];clear l p hid g hK c;by_cases i:f=14
   · subst i
     rw[if_pos rfl];go_enter func133,ntmps133;go_wp2_with fail;go_ret;exact⟨rfl,(xr _).alloc _⟩
   have F:(f==14)=false:=beq_eq_false_iff_ne.2 i;rw[if_neg i];go_enter func133,ntmps133;go_wp2_with fail;go_ret;exact⟨rfl,(xr _).alloc _⟩
 · have c:a.length=1:=by have:(1:Int)=(a.length:Int):=g;omega
   have s:(0:Int) <(a.length:Int):=by omega
   obtain⟨b,o,f,q,z,m,kids,rfl,hid,u,r,x,-,-,-,-,-⟩:=hK.get ((xr w).alloc (.cells #[.int .i64 16,.int .i64 n,.slice A a.length cap] 25)) (j:=0) (by omega);simp only[cT,cQ] at u;clear r x;have p:kd a 0= .mk f q kids:=Od (by omega) hid.out;have l:U3 (.mk 16 n a)=if f=14 then 6 else 0:=by show rdx 16 a=_;unfold rdx;rw[p];rfl
   rw[l];clear l p hid g hK c;by_cases i:f=14
   · subst i
     rw[if_pos rfl];go_enter func133,ntmps133;go_wp2_with fail;go_ret;exact⟨rfl,(xr _).alloc _⟩
   have F:(f==14)=false:=beq_eq_false_iff_ne.2 i;rw[if_neg i];go_enter func133,ntmps133;go_wp2_with fail;go_ret;exact⟨rfl,(xr _).alloc _⟩
theorem mq(t:Tr)(d:Int)(hsh:D0 m0 t d=true)(w:aK)(v:aS)(E:Lies w t v):Calls prog 170 #[v] w fun e G=> e= .returned (.int .i64 (U3 t))/\Ext w G:=by
 obtain⟨k,n,a⟩:=t;obtain⟨A,cap,rfl,hl,hc,hK⟩:=Lies.mk_iff.1 E;obtain⟨g,hk⟩:=yC hsh;unfold maxLen at hc;clear hsh E;rcases hk with rfl|rfl|rfl|rfl|rfl|rfl|rfl|rfl|rfl|rfl|rfl|rfl|rfl|rfl|rfl|rfl
 · rw[show U3 (.mk 1 n a)=0 from rfl]
   clear g hK;go_enter func170,ntmps170;go_wp2_with fail;go_ret;exact⟨rfl,(xr _).alloc _⟩
 · rw[show U3 (.mk 2 n a)=0 from rfl]
   clear g hK;go_enter func170,ntmps170;go_wp2_with fail;go_ret;exact⟨rfl,(xr _).alloc _⟩
 · rw[show U3 (.mk 3 n a)=0 from rfl]
   clear g hK;go_enter func170,ntmps170;go_wp2_with fail;go_ret;exact⟨rfl,(xr _).alloc _⟩
 · rw[show U3 (.mk 4 n a)=0 from rfl]
   clear g hK;go_enter func170,ntmps170;go_wp2_with fail;go_ret;exact⟨rfl,(xr _).alloc _⟩
 · have c:a.length=2:=by have:(2:Int)=(a.length:Int):=g;omega
   have s:(0:Int) <(a.length:Int):=by omega
   obtain⟨b,o,f,q,z,m,kids,rfl,hid,u,r,x,-,-,-,-,-⟩:=hK.get ((xr w).alloc (.cells #[.int .i64 5,.int .i64 n,.slice A a.length cap] 25)) (j:=0) (by omega);simp only[cT,cQ] at u;clear r x;have p:kd a 0= .mk f q kids:=Od (by omega) hid.out;have l:U3 (.mk 5 n a)=if f=4 then 1 else 0:=by show rdx 5 a=_;unfold rdx;rw[p];rfl
   rw[l];clear l p hid g hK c;by_cases C:f=4
   · subst C
     rw[if_pos rfl];go_enter func170,ntmps170;go_wp2_with fail;go_ret;exact⟨rfl,(xr _).alloc _⟩
   have K:(f==4)=false:=beq_eq_false_iff_ne.2 C;rw[if_neg C];go_enter func170,ntmps170;go_wp2_with fail;go_ret;exact⟨rfl,(xr _).alloc _⟩
 · rw[show U3 (.mk 6 n a)=0 from rfl]
   clear g hK;go_enter func170,ntmps170;go_wp2_with fail;go_ret;exact⟨rfl,(xr _).alloc _⟩
 · rw[show U3 (.mk 7 n a)=0 from rfl]
   clear g hK;go_enter func170,ntmps170;go_wp2_with fail;go_ret;exact⟨rfl,(xr _).alloc _⟩
 · rw[show U3 (.mk 8 n a)=0 from rfl]
   clear g hK;go_enter func170,ntmps170;go_wp2_with fail;go_ret;exact⟨rfl,(xr _).alloc _⟩
 · have c:a.length=4:=by have:(4:Int)=(a.length:Int):=g;omega
   have s:(3:Int) <(a.length:Int):=by omega
   obtain⟨b,o,f,q,z,m,kids,rfl,hid,u,r,x,-,-,-,-,-⟩:=hK.get ((xr w).alloc (.cells #[.int .i64 9,.int .i64 n,.slice A a.length cap] 25)) (j:=3) (by omega);simp only[eU] at u;clear r x;have p:kd a 3= .mk f q kids:=Od (by omega) hid.out;have l:U3 (.mk 9 n a)=if f=7 then 2 else if f=8 then 3 else 0:=by show rdx 9 a=_;unfold rdx;rw[p];rfl
   rw[l];clear l p hid g hK c;by_cases B:f=7
   · subst B
     rw[if_pos rfl];go_enter func170,ntmps170;go_wp2_with fail;go_ret;exact⟨rfl,(xr _).alloc _⟩
   by_cases D:f=8
   · subst D
     rw[if_neg (by decide),if_pos rfl];go_enter func170,ntmps170;go_wp2_with fail;go_ret;exact⟨rfl,(xr _).alloc _⟩
   have J:(f==7)=false:=beq_eq_false_iff_ne.2 B;have I:(f==8)=false:=beq_eq_false_iff_ne.2 D;rw[if_neg B,if_neg D];go_enter func170,ntmps170;go_wp2_with fail;go_ret;exact⟨rfl,(xr _).alloc _⟩
 · rw[show U3 (.mk 10 n a)=0 from rfl]
   clear g hK;go_enter func170,ntmps170;go_wp2_with fail;go_ret;exact⟨rfl,(xr _).alloc _⟩
 · rw[show U3 (.mk 11 n a)=0 from rfl]
   clear g hK;go_enter func170,ntmps170;go_wp2_with fail;go_ret;exact⟨rfl,(xr _).alloc _⟩
 · have c:a.length=3:=by have:(3:Int)=(a.length:Int):=g;omega
   have s:(1:Int) <(a.length:Int):=by omega
   obtain⟨b,o,f,q,z,m,kids,rfl,hid,u,r,x,-,-,-,-,-⟩:=hK.get ((xr w).alloc (.cells #[.int .i64 12,.int .i64 n,.slice A a.length cap] 25)) (j:=1) (by omega);simp only[eU] at u;clear r x;have p:kd a 1= .mk f q kids:=Od (by omega) hid.out;have l:U3 (.mk 12 n a)=if f=11 then 4 else 0:=by show rdx 12 a=_;unfold rdx;rw[p];rfl
   rw[l];clear l p hid g hK c;by_cases y:f=11
   · subst y
     rw[if_pos rfl];go_enter func170,ntmps170;go_wp2_with fail;go_ret;exact⟨rfl,(xr _).alloc _⟩
   have H:(f==11)=false:=beq_eq_false_iff_ne.2 y;rw[if_neg y];go_enter func170,ntmps170;go_wp2_with fail;go_ret;exact⟨rfl,(xr _).alloc _⟩
 · rw[show U3 (.mk 13 n a)=0 from rfl]
   clear g hK;go_enter func170,ntmps170;go_wp2_with fail;go_ret;exact⟨rfl,(xr _).alloc _⟩
 · rw[show U3 (.mk 14 n a)=0 from rfl]
   clear g hK;go_enter func170,ntmps170;go_wp2_with fail;go_ret;exact⟨rfl,(xr _).alloc _⟩
 · have c:a.length=1:=by have:(1:Int)=(a.length:Int):=g;omega
   have s:(0:Int) <(a.length:Int):=by omega
   obtain⟨b,o,f,q,z,m,kids,rfl,hid,u,r,x,-,-,-,-,-⟩:=hK.get ((xr w).alloc (.cells #[.int .i64 15,.int .i64 n,.slice A a.length cap] 25)) (j:=0) (by omega);simp only[cT,cQ] at u;clear r x;have p:kd a 0= .mk f q kids:=Od (by omega) hid.out;have l:U3 (.mk 15 n a)=if f=14 then 5 else 0:=by show rdx 15 a=_;unfold rdx;rw[p];rfl
   rw[l];clear l p hid g hK c;by_cases i:f=14
   · subst i
     rw[if_pos rfl];go_enter func170,ntmps170;go_wp2_with fail;go_ret;exact⟨rfl,(xr _).alloc _⟩
   have F:(f==14)=false:=beq_eq_false_iff_ne.2 i;rw[if_neg i];go_enter func170,ntmps170;go_wp2_with fail;go_ret;exact⟨rfl,(xr _).alloc _⟩
 · have c:a.length=1:=by have:(1:Int)=(a.length:Int):=g;omega
   have s:(0:Int) <(a.length:Int):=by omega
   obtain⟨b,o,f,q,z,m,kids,rfl,hid,u,r,x,-,-,-,-,-⟩:=hK.get ((xr w).alloc (.cells #[.int .i64 16,.int .i64 n,.slice A a.length cap] 25)) (j:=0) (by omega);simp only[cT,cQ] at u;clear r x;have p:kd a 0= .mk f q kids:=Od (by omega) hid.out;have l:U3 (.mk 16 n a)=if f=14 then 6 else 0:=by show rdx 16 a=_;unfold rdx;rw[p];rfl
   rw[l];clear l p hid g hK c;by_cases i:f=14
   · subst i
     rw[if_pos rfl];go_enter func170,ntmps170;go_wp2_with fail;go_ret;exact⟨rfl,(xr _).alloc _⟩
   have F:(f==14)=false:=beq_eq_false_iff_ne.2 i;rw[if_neg i];go_enter func170,ntmps170;go_wp2_with fail;go_ret;exact⟨rfl,(xr _).alloc _⟩
