/-
  Lemmas towards the law, 13: Parse3, MEnc, Box, Redex.
-/
import Derived.Test.YtckhbnmfnpolgaaGreatC00
import Derived.Test.YtckhbnmfnpolgaaGreatCAA
import Derived.Test.YtckhbnmfnpolgaaGreatCAL
open Go renaming World->aL,Value->aT,TypeId->aZ
open Nat renaming zero_le->bV,le_refl->aN,zero_mul->cW,add_zero->cU,reduceMul->fL
open List renaming eq_nil_of_length_eq_zero->bO
open Go.Proofs.Tryz
set_option linter.all false
set_option maxHeartbeats 4000000
set_option maxRecDepth 100000
namespace Go.Proofs.YtckhbnmfnpolgaaGreat
open Go.RowKit
def GD(B:Nat)(w:aL)(size:Nat)(o:Option (List Tr×Nat))(e:Ending)(b:aL):Prop:=
 ∃(ts:List Tr) (A:Option Addr) (cap:Nat) (a:Int),e= .returned (.tuple #[.slice A ts.length cap,.int .i64 a])/\ts.length<=cap/\cap<=maxLen/\xb B b A ts/\Ext w b/\(∀x,o=some x->ts=x.1/\a=x.2/\x.2<=size)/\(o=none->a= -1)
theorem XG:(prog.info? 25).map (fun i=>(i.zero,i.size,i.bytes))=some (some (M0 0 0 none 0 0),3,40):=by kernel_rfl
theorem UF{p:Nat->Option (Tr×Nat)}{l:List UInt8}{last:UInt8}{m a b:Nat}{t:Tr}(h:p a=some (t,b)):Re p l last (m+1) a=if l[b]? =some (if m=0 then last else 44) then(Re p l last m (b+1)).map (fun x=>(t::x.1,x.2)) else none:=by
 conv=> lhs;unfold Re
 rw[h]
theorem lI{p:Nat->Option (Tr×Nat)}{l:List UInt8}{last:UInt8}{m a:Nat}(h:p a=none):Re p l last (m+1) a=none:=by
 conv=> lhs;unfold Re
 rw[h]
theorem qI(d:Nat)(ih:ad d)(s:ByteArray)(a many:Nat)(last:UInt8)(w:aL)(hs:s.size<=1000000000)(ha:a<=s.size+2)(hm:many<=4)(Em:1<=many):
 Calls prog 198 #[.string s,.int .i64 a,.int .i64 d,.int .i64 many,.int .u8 (last.toNat:Int)] w (GD w.heap.size w s.size (Re (Z5 d s.data.toList) s.data.toList last many a)):=by
 have HI:=hdq (fun a W (ha:a<=s.size+2)=> ih s a W hs ha);obtain⟨F,hF⟩: ∃F,F=Z5 d s.data.toList:=⟨_,rfl⟩;rw[<-hF] at HI⊢;obtain⟨R,hR⟩: ∃R,R=Re F s.data.toList last many a:=⟨_,rfl⟩;rw[<-hR];have HR:=hdq hR;obtain⟨i0,hi,hz0,hz1,hz2⟩:=info_parts XG;obtain⟨q,hq⟩: ∃q,last.toNat=q:=⟨_,rfl⟩;rw[hq];have Q:=hdq hq;clear hR ih hF hq;go_enter func198,ntmps198;go_wp2_with fail;have J:=(xr w).alloc (.cells #[] 25);have P:=heap_alloc_new w (.cells #[] 25);have K:w.heap.size <(w.alloc (.cells #[] 25)).heap.size:=by simp
 generalize World.alloc w _=w1 at J P K
 go_loopw [1,12,13] (fun at_ o i wr=> ∃(j C:Nat) (ts:List Tr),j<=many/\at_= .int .i64 C/\i= .int .i64 j/\C<=s.size+2/\T8 (· < w.heap.size) w wr 25 o ts/\ts.length=j/\Ext w wr/\w.heap.size < wr.heap.size/\R=(Re F s.data.toList last (many - j) C).map (fun x=>(ts++x.1,x.2))/\(j=many->C<=s.size)) (fun _ _ i _=> many -(intOf i).toNat)
 case atStart=> exact⟨0,a, [],bV _,rfl,rfl,ha,T8.lit P (aN _),rfl,J,K,by rw[HR.out];simp,by omega⟩
 case round=>
  obtain⟨j,C,ts,hj,rfl,rfl,ha',hG,gl,hx,hsz,V6,l⟩:=hrel;have HE:=hdq V6;have ig:=hdq gl;have htl4:ts.length<=4:=by omega
  clear gl;obtain⟨U,co,rfl,S6,hl2,M,-⟩:=hG.lies (fun b B=> B);clear V6;by_cases hlt:j < many
  · have uk:(j:Int) <(many:Int):=by omega
    have HND:=hdq l;clear l;go_wp2_with fail;refine(HI.out C wr ha').mono ?_;rintro e G ⟨t,u,nx,rfl,hF,e2,q1,Z⟩;obtain⟨r,n0,z,v,n,rfl⟩:=hF.three;have hs2:=e2.size;have N:=e2.trans ((xr G).alloc (.cells #[.int .i64 r,.int .i64 n0,.slice z v n] 25));cases m:F C with
    |none=>
     obtain rfl:=Z m;have J8:R=none:=by
      rw[HE.out,show many - j=(many - j - 1)+1 by omega,lI m]
      rfl
     have L:=hdq J8;clear q1 Z J8 m;go_wp2_with fail;go_ret2;exact⟨[],none,0,-1,rfl,aN _,bV _,.inl rfl,hx.trans N,(fun x hx=> by rw[L.out] at hx;cases hx),fun _=> rfl⟩
    |some y=>
     obtain⟨t',b⟩:=y;obtain⟨h1,h2,h3⟩:=q1 _ m;simp only at h1 h2 h3;subst h1 h2;have f:=HE.out;rw[show many - j=(many -(j+1))+1 by omega,UF m] at f;clear q1 Z m;have t0:decide ((b:Int) < 0)=false:=decide_eq_false (by omega);by_cases hlb:b < s.size
     · obtain⟨c,hc⟩: ∃c,s[b]=c:=⟨_,rfl⟩
       rw[Od hlb hc] at f;have hbz:(b:Int) <(s.size:Int):=by omega
       have t1:decide ((s.size:Int)<=(b:Int))=false:=decide_eq_false (by omega);obtain⟨p,V⟩: ∃p,c.toNat=p:=⟨_,rfl⟩;obtain⟨A,E⟩: ∃A:UInt8,A=if many -(j+1)=0 then last else 44:=⟨_,rfl⟩
       rw[<-E] at f;by_cases k:c=A
       · rw[if_pos (by rw[k])] at f
         have HST:=hdq f;have I2:=hG.ext N;have Ae: ∀o',T8 (· < w.heap.size) w (G.alloc (.cells #[.int .i64 r,.int .i64 n0,.slice z v n] 25)) 25 o' ts->True:=fun _ _=> trivial
         have D: ∀g,(Value.slice U ts.length co).ownBlock=some g->g < wr.heap.size:=by
          obtain⟨xs,H,-⟩:=hG;exact fun g hg=>(H.lt g hg).2
         have qa:=hdq D;have O:=(hF.ext ((xr G).alloc (.cells #[.int .i64 r,.int .i64 n0,.slice z v n] 25))).ext ((xr _).alloc (.cells #[.int .i64 r,.int .i64 n0,.slice z v n] 25));have T:=I2.ext ((xr _).alloc (.cells #[.int .i64 r,.int .i64 n0,.slice z v n] 25));have yc:=heap_alloc_new (G.alloc (.cells #[.int .i64 r,.int .i64 n0,.slice z v n] 25)) (.cells #[.int .i64 r,.int .i64 n0,.slice z v n] 25);simp only[World.size_alloc] at yc;have hT:InT ((G.alloc (.cells #[.int .i64 r,.int .i64 n0,.slice z v n] 25)).alloc (.cells #[.int .i64 r,.int .i64 n0,.slice z v n] 25)) (fun b=> b <((G.alloc (.cells #[.int .i64 r,.int .i64 n0,.slice z v n] 25)).alloc (.cells #[.int .i64 r,.int .i64 n0,.slice z v n] 25)).heap.size/\(Value.slice U ts.length co).ownBlock≠some b/\ ¬(b < w.heap.size)) t (.agg #[.int .i64 r,.int .i64 n0,.slice z v n]):=O.mono (fun b B=>⟨B.2,fun h=> by have:=qa.out b h;omega,by omega⟩) (fun _ _=> rfl);have HT:=hdq hT;have HGX:=hdq T;have HW:=hdq E;clear f E hG I2 hT O hF D T Ae M;have R9:(j+1 < many/\p=44/\((j:Int)+1==(many:Int))=false)\/(many<=j+1/\p=q/\((j:Int)+1==(many:Int))=true):=by
          rcases Nat.lt_or_ge (j+1) many with g|g
          · refine .inl ⟨g, ?_,by rw[beq_eq_false_iff_ne];omega⟩
            have:=k;rw[HW.out,if_neg (by omega)] at this;rw[<-V,this];rfl
          · refine .inr ⟨g, ?_,by rw[beq_iff_eq];omega⟩
            have:=k;rw[HW.out,if_pos (by omega)] at this;rw[<-V,this,Q.out]
         clear k;rcases R9 with⟨H,rfl,g3⟩ |⟨H,rfl,g3⟩
         all_goals(
          have gz:(j:Int)+1 <(many:Int)\/(many:Int)<=(j:Int)+1:=by omega
          have gd:decide ((j:Int)+1 <(many:Int))=decide (j+1 < many):=decide_eq_decide.2 (by omega);clear gz)
         all_goals(
          have h44:((44:Int) !=44)=false:=by decide
          go_wp2_with (at_builtin;refine KE _ rfl (.tmp 62) (.tmp 64) _ (by rfl) 25 i0 _ underlying23 hi hz0 hz1 hz2 rfl (by rfl) (X:=(· < w.heap.size)) (W:=w) (tr:=t) HGX.out (by simp;omega) HT.out (by rfl) yc (by omega) ?_ (fun b B=> B))
          intro v' w5 C3 Y;obtain⟨B5,c5,rfl,r1,r2,-,-⟩:=C3.lies (fun b B=> B);have O9:Ext w w5:=Below.trans (hx.trans (N.trans ((xr _).alloc (.cells #[.int .i64 r,.int .i64 n0,.slice z v n] 25)))) Y;have S:=Y.size;have Dg:=hdq C3;have Gp:w.heap.size < w5.heap.size:=by simp at S;omega
          clear C3 Y S yc;go_wp2_with fail
          go_roundw
          case rel=> exact⟨j+1,b+1,ts++ [t],by omega,by go_num,by go_num,by omega,Dg.out,by rw[List.length_append,ig.out];rfl,O9,Gp,by rw[HST.out,Option.map_map];congr 1;funext x;simp,by omega⟩
          case measure=> simp[intOf];omega)
       · rw[if_neg (by intro h;cases h;exact k rfl)] at f
         have L:=hdq (show R=none from by rw[f];rfl);have R9:(j+1 < many/\((p:Int) !=44)=true)\/(many<=j+1/\((p:Int) !=(q:Int))=true/\((j:Int)+1==(many:Int))=true):=by
          rcases Nat.lt_or_ge (j+1) many with g|g
          · refine .inl ⟨g, ?_⟩
            rw[bne_iff_ne];intro h;rw[E,if_neg (by omega)] at k;exact k (UInt8.toNat_inj.1 (by rw[V];simp;omega))
          · refine .inr ⟨g, ?_,by rw[beq_iff_eq];omega⟩
            rw[bne_iff_ne];intro h;rw[E,if_pos (by omega)] at k;exact k (UInt8.toNat_inj.1 (by rw[V,Q.out];omega))
         clear f E k hG M;rcases R9 with⟨H,g2⟩ |⟨H,g2,g3⟩
         all_goals(
          go_wp2_with fail;go_ret2;exact⟨[],none,0,-1,rfl,aN _,bV _,.inl rfl,hx.trans N,(fun x hx=> by rw[L.out] at hx;cases hx),fun _=> rfl⟩)
     · rw[Bn s (by omega),if_neg (by simp)] at f
       have L:=hdq (show R=none from by rw[f];rfl);have t1:decide ((s.size:Int)<=(b:Int))=true:=decide_eq_true (by omega);clear f hG M;go_wp2_with fail;go_ret2;exact⟨[],none,0,-1,rfl,aN _,bV _,.inl rfl,hx.trans N,(fun x hx=> by rw[L.out] at hx;cases hx),fun _=> rfl⟩
  · have Cx:j=many:=by omega
    have D5:R=some (ts,C):=by
     rw[HE.out,Cx,Nat.sub_self];simp[Re]
    have I:=hdq D5;have hK2:xb w.heap.size wr U ts:=M.mono (fun b B=>⟨by omega,B.1⟩) (fun _ _=> rfl);have M2:=l Cx;clear D5 l M hG;go_wp2_with fail;go_ret2;refine⟨ts,U,co,(C:Int), ?_,S6,hl2,hK2,hx, ?_, ?_⟩
    · rfl
    · intro x hx
      rw[I.out] at hx;cases hx
      exact⟨rfl,rfl,M2⟩
    · intro hx
      rw[I.out] at hx;cases hx
end Go.Proofs.YtckhbnmfnpolgaaGreat
namespace Go.Proofs.YtckhbnmfnpolgaaGreat
def enc:M.Tm->Tr
 | .var n=> .mk 1 n []
 | .sort n=> .mk 2 n []
 | .pi A B=> .mk 3 0 [enc A,enc B]
 | .lam A t=> .mk 4 0 [enc A,enc t]
 | .app f a=> .mk 5 0 [enc f,enc a]
 | .nat=> .mk 6 0 []
 | .zero=> .mk 7 0 []
 | .succ a=> .mk 8 0 [enc a]
 | .elim p z s a=> .mk 9 0 [enc p,enc z,enc s,enc a]
 | .id T a b=> .mk 10 0 [enc T,enc a,enc b]
 | .refl a=> .mk 11 0 [enc a]
 | .move p e a=> .mk 12 0 [enc p,enc e,enc a]
 | .sg A B=> .mk 13 0 [enc A,enc B]
 | .pair T a b=> .mk 14 0 [enc T,enc a,enc b]
 | .fst a=> .mk 15 0 [enc a]
 | .snd a=> .mk 16 0 [enc a]
def fk(y c n:Nat):Nat:=if c<=n then n+y else n
theorem nw(y c:Nat):M.Tm.upr (fk y c)=fk y (c+1):=by
 funext n
 cases n with
 |zero=> simp[M.Tm.upr,fk]
 |succ n=>
  show fk y c n+1=_
  unfold fk;by_cases h:c<=n
  · rw[if_pos h,if_pos (by omega)];omega
  · rw[if_neg h,if_neg (by omega)]
theorem Tj(y:Nat): ∀(t:M.Tm) (c:Nat),shfT (y:Int) (enc t) (c:Int)=enc (t.ren (fk y c)):=by
 have d: ∀(k:Int) (c:Nat),(c:Int)+E4 k 0=(c:Int):=fun k c=> by simp[E4]
 intro t
 induction t with
 |var n=>
  intro c;simp only[enc,M.Tm.ren,shfT,Y7,fk];by_cases h:c<=n
  · rw[if_pos ⟨trivial,by omega⟩,if_pos h];congr 1
  · rw[if_neg (fun e=> h (by omega)),if_neg h]
 |pi A B b a=>
  intro c;simp only[enc,M.Tm.ren,shfT,Y7,d,b,nw];rw[show(c:Int)+E4 3 (0+1)=((c+1:Nat):Int) from rfl,a]
  rfl
 |lam A B b a=>
  intro c;simp only[enc,M.Tm.ren,shfT,Y7,d,b,nw];rw[show(c:Int)+E4 4 (0+1)=((c+1:Nat):Int) from rfl,a]
  rfl
 |sg A B b a=>
  intro c;simp only[enc,M.Tm.ren,shfT,Y7,d,b,nw];rw[show(c:Int)+E4 13 (0+1)=((c+1:Nat):Int) from rfl,a]
  rfl
 |_=> intro c;simp_all [enc,M.Tm.ren,shfT,Y7,E4]
def Td(u:M.Tm)(k n:Nat):M.Tm:=if n=k then u.ren (fun i=> i+k) else if k < n then .var (n - 1) else .var n
theorem GH(u:M.Tm):Td u 0=M.Tm.cns u M.Tm.var:=by
 funext n
 cases n with
 |zero=> simp[Td,M.Tm.cns,M.Tm.ren_id]
 |succ n=> simp[Td,M.Tm.cns]
theorem Rw(u:M.Tm)(k:Nat):M.Tm.ups (Td u k)=Td u (k+1):=by
 funext n
 cases n with
 |zero=> simp[M.Tm.ups,Td]
 |succ n=>
  show M.Tm.wk (Td u k n)=Td u (k+1) (n+1)
  by_cases h:n=k
  · have b:Td u k n=u.ren (fun i=> i+k):=if_pos h
    have a:Td u (k+1) (n+1)=u.ren (fun i=> i+(k+1)):=if_pos (by omega);rw[b,a,M.Tm.wk,M.Tm.ren_ren];rfl
  · by_cases c:k < n
    · have b:Td u k n= .var (n - 1):=by unfold Td;rw[if_neg h,if_pos c]
      have a:Td u (k+1) (n+1)= .var n:=by unfold Td;rw[if_neg (by omega),if_pos (by omega)];rfl
      rw[b,a]
      show M.Tm.var (n - 1+1)=_
      congr 1
      omega
    · have b:Td u k n= .var n:=by unfold Td;rw[if_neg h,if_neg c]
      have a:Td u (k+1) (n+1)= .var (n+1):=by unfold Td;rw[if_neg (by omega),if_neg (by omega)]
      rw[b,a];rfl
theorem kw(k:Nat):fk k 0=fun i=> i+k:=by funext i;simp[fk]
theorem Rq(u:M.Tm): ∀(t:M.Tm) (k:Nat),Z0 (enc u) (enc t) (k:Int) (k:Int)=enc (t.sub (Td u k)):=by
 have f: ∀(k:Int) (c:Nat),(c:Int)+E4 k 0=(c:Int):=fun k c=> by simp[E4]
 intro t
 induction t with
 |var n=>
  intro k;simp only[enc,M.Tm.sub,Z0,n8,Td];by_cases h:n=k
  · rw[if_pos ⟨trivial,by omega⟩,if_pos h,<-kw]
    exact Tj k u 0
  · rw[if_neg (fun e=> h (by omega)),if_neg h]
    by_cases d:k < n
    · rw[if_pos ⟨trivial,by omega⟩,if_pos d]
      simp only[enc]
      congr 1
      omega
    · rw[if_neg (fun e=> d (by omega)),if_neg d];rfl
 |pi A B b a=>
  intro c;simp only[enc,M.Tm.sub,Z0,n8,f,b,Rw];rw[show(c:Int)+E4 3 (0+1)=((c+1:Nat):Int) from rfl,a]
  rfl
 |lam A B b a=>
  intro c;simp only[enc,M.Tm.sub,Z0,n8,f,b,Rw];rw[show(c:Int)+E4 4 (0+1)=((c+1:Nat):Int) from rfl,a]
  rfl
 |sg A B b a=>
  intro c;simp only[enc,M.Tm.sub,Z0,n8,f,b,Rw];rw[show(c:Int)+E4 13 (0+1)=((c+1:Nat):Int) from rfl,a]
  rfl
 |_=> intro c;simp_all [enc,M.Tm.sub,Z0,n8,E4]
theorem tm(t u:M.Tm):Z0 (enc u) (enc t) 0 0=enc (t.inst u):=by
 have:=Rq u t 0;rw[GH] at this;exact this
theorem Md: ∀{t u:M.Tm},enc t=enc u->t=u:=by
 intro t
 induction t <;> intro u h <;> cases u <;> simp[enc] at h⊢ <;> first|omega|(obtain⟨b,a,c,d⟩:=h;refine⟨?_, ?_, ?_, ?_⟩ <;> solve_by_elim) |(obtain⟨b,a,c⟩:=h;refine⟨?_, ?_, ?_⟩ <;> solve_by_elim) |(obtain⟨b,a⟩:=h;refine⟨?_, ?_⟩ <;> solve_by_elim) |solve_by_elim
theorem ku: ∀(t:Tr) (d:Int),P0 D0 t d=true-> ∃m,enc m=t:=Tr.ind fun k n f ih=> by
 intro d h;obtain⟨l,q,p,j⟩:=Z4 h;have o:U0 k=(f.length:Int):=l;have i:n<=Ma k:=p;have e: ∀t∈f,∃m,enc m=t:=fun t ht=> ih t ht _ (j t ht)
 have g:k≠1->k≠2->n=0:=fun a b=> by unfold Ma at i;rw[if_neg a,if_neg b] at i;omega
 rcases lG o with rfl|rfl|rfl|rfl|rfl|rfl|rfl|rfl|rfl|rfl|rfl|rfl|rfl|rfl|rfl|rfl
 · have:f= []:=bO (by have:U0 1=0:=rfl;omega)
   subst this;exact⟨.var n.toNat,by unfold enc;congr 1;omega⟩
 · have:f= []:=bO (by have:U0 2=0:=rfl;omega)
   subst this;exact⟨.sort n.toNat,by unfold enc;congr 1;omega⟩
 · obtain rfl:=g (by decide) (by decide)
   match f,(show f.length=2 by have:U0 3=2:=rfl;omega),e with
   | [x,y],_,e=>
    obtain⟨a,rfl⟩:=e x (by simp);obtain⟨b,rfl⟩:=e y (by simp);exact⟨.pi a b,rfl⟩
 · obtain rfl:=g (by decide) (by decide)
   match f,(show f.length=2 by have:U0 4=2:=rfl;omega),e with
   | [x,y],_,e=>
    obtain⟨a,rfl⟩:=e x (by simp);obtain⟨b,rfl⟩:=e y (by simp);exact⟨.lam a b,rfl⟩
 · obtain rfl:=g (by decide) (by decide)
   match f,(show f.length=2 by have:U0 5=2:=rfl;omega),e with
   | [x,y],_,e=>
    obtain⟨a,rfl⟩:=e x (by simp);obtain⟨b,rfl⟩:=e y (by simp);exact⟨.app a b,rfl⟩
 · obtain rfl:=g (by decide) (by decide)
   match f,(show f.length=0 by have:U0 6=0:=rfl;omega),e with
   | [],_,e=>
    exact⟨.nat,rfl⟩
 · obtain rfl:=g (by decide) (by decide)
   match f,(show f.length=0 by have:U0 7=0:=rfl;omega),e with
   | [],_,e=>
    exact⟨.zero,rfl⟩
 · obtain rfl:=g (by decide) (by decide)
   match f,(show f.length=1 by have:U0 8=1:=rfl;omega),e with
   | [x],_,e=>
    obtain⟨a,rfl⟩:=e x (by simp);exact⟨.succ a,rfl⟩
 · obtain rfl:=g (by decide) (by decide)
   match f,(show f.length=4 by have:U0 9=4:=rfl;omega),e with
   | [x,y,u,v],_,e=>
    obtain⟨a,rfl⟩:=e x (by simp);obtain⟨b,rfl⟩:=e y (by simp);obtain⟨c,rfl⟩:=e u (by simp);obtain⟨d,rfl⟩:=e v (by simp);exact⟨.elim a b c d,rfl⟩
 · obtain rfl:=g (by decide) (by decide)
   match f,(show f.length=3 by have:U0 10=3:=rfl;omega),e with
   | [x,y,u],_,e=>
    obtain⟨a,rfl⟩:=e x (by simp);obtain⟨b,rfl⟩:=e y (by simp);obtain⟨c,rfl⟩:=e u (by simp);exact⟨.id a b c,rfl⟩
 · obtain rfl:=g (by decide) (by decide)
   match f,(show f.length=1 by have:U0 11=1:=rfl;omega),e with
   | [x],_,e=>
    obtain⟨a,rfl⟩:=e x (by simp);exact⟨.refl a,rfl⟩
 · obtain rfl:=g (by decide) (by decide)
   match f,(show f.length=3 by have:U0 12=3:=rfl;omega),e with
   | [x,y,u],_,e=>
    obtain⟨a,rfl⟩:=e x (by simp);obtain⟨b,rfl⟩:=e y (by simp);obtain⟨c,rfl⟩:=e u (by simp);exact⟨.move a b c,rfl⟩
 · obtain rfl:=g (by decide) (by decide)
   match f,(show f.length=2 by have:U0 13=2:=rfl;omega),e with
   | [x,y],_,e=>
    obtain⟨a,rfl⟩:=e x (by simp);obtain⟨b,rfl⟩:=e y (by simp);exact⟨.sg a b,rfl⟩
 · obtain rfl:=g (by decide) (by decide)
   match f,(show f.length=3 by have:U0 14=3:=rfl;omega),e with
   | [x,y,u],_,e=>
    obtain⟨a,rfl⟩:=e x (by simp);obtain⟨b,rfl⟩:=e y (by simp);obtain⟨c,rfl⟩:=e u (by simp);exact⟨.pair a b c,rfl⟩
 · obtain rfl:=g (by decide) (by decide)
   match f,(show f.length=1 by have:U0 15=1:=rfl;omega),e with
   | [x],_,e=>
    obtain⟨a,rfl⟩:=e x (by simp);exact⟨.fst a,rfl⟩
 · obtain rfl:=g (by decide) (by decide)
   match f,(show f.length=1 by have:U0 16=1:=rfl;omega),e with
   | [x],_,e=>
    obtain⟨a,rfl⟩:=e x (by simp);exact⟨.snd a,rfl⟩
theorem Xm{t o:M.Tm}(h:M.Par t o):Par (enc t) (enc o):=by
 induction h with
 |var n=> exact Par.refl _
 |sort n=> exact Par.refl _
 |nat=> exact Par.refl _
 |zero=> exact Par.refl _
 | @beta A b r a l g f d c=>
  have h:=Par.red (k:=5) (n:=0) (ks:= [enc (.lam A b),enc a]) (by simp[rdx,kd,Tr.kind,enc]) (.cons (.node (k:=4) (n:=0) (.cons (Par.refl (enc A)) (.cons d .nil))) (.cons c .nil));rw[<-tm];exact h
 | @ez p z u s h i=> exact Par.red (k:=9) (n:=0) (ks:= [enc p,enc z,enc s,enc .zero]) (by simp[rdx,kd,Tr.kind,enc]) (.cons (Par.refl _) (.cons i (.cons (Par.refl _) (.cons (Par.refl _) .nil))))
 | @es p w z u s v a l g f j q d c e m=> exact Par.red (k:=9) (n:=0) (ks:= [enc p,enc z,enc s,enc (.succ a)]) (by simp[rdx,kd,Tr.kind,enc]) (.cons d (.cons c (.cons e (.cons (.node (k:=8) (n:=0) (.cons m .nil)) .nil))))
 | @mr p b a l h i=> exact Par.red (k:=12) (n:=0) (ks:= [enc p,enc (.refl b),enc a]) (by simp[rdx,kd,Tr.kind,enc]) (.cons (Par.refl _) (.cons (Par.refl _) (.cons i .nil)))
 | @fp T a l b h i=> exact Par.red (k:=15) (n:=0) (ks:= [enc (.pair T a b)]) (by simp[rdx,kd,Tr.kind,enc]) (.cons (.node (k:=14) (n:=0) (.cons (Par.refl _) (.cons i (.cons (Par.refl _) .nil)))) .nil)
 | @sp T a b r h i=> exact Par.red (k:=16) (n:=0) (ks:= [enc (.pair T a b)]) (by simp[rdx,kd,Tr.kind,enc]) (.cons (.node (k:=14) (n:=0) (.cons (Par.refl _) (.cons (Par.refl _) (.cons i .nil)))) .nil)
 |elim g f j q d c e m=> exact .node (.cons d (.cons c (.cons e (.cons m .nil))))
 |pi g f d c=> exact .node (.cons d (.cons c .nil))
 |lam g f d c=> exact .node (.cons d (.cons c .nil))
 |app g f d c=> exact .node (.cons d (.cons c .nil))
 |sg g f d c=> exact .node (.cons d (.cons c .nil))
 |id g f j d c e=> exact .node (.cons d (.cons c (.cons e .nil)))
 |move g f j d c e=> exact .node (.cons d (.cons c (.cons e .nil)))
 |pair g f j d c e=> exact .node (.cons d (.cons c (.cons e .nil)))
 |succ h i=> exact .node (.cons i .nil)
 |refl h i=> exact .node (.cons i .nil)
 |fst h i=> exact .node (.cons i .nil)
 |snd h i=> exact .node (.cons i .nil)
theorem EC{t a:M.Tm}(h:M.Red t a):X6 (enc t) (enc a):=by
 induction h with
 |refl=> exact .refl _
 |step b _ ih=> exact(X6.one (Xm b)).trans ih
theorem ar: ∀{t:M.Tm} {l:Tr},Par (enc t) l-> ∃m,l=enc m/\M.Par t m:=by
 have no: ∀{k:Int} {y:List Tr},rdx k y≠0->k=5\/k=9\/k=12\/k=15\/k=16:=by
  intro k y h;by_cases H:k=5
  · exact .inl H
  by_cases x:k=9
  · exact .inr (.inl x)
  by_cases C:k=12
  · exact .inr (.inr (.inl C))
  by_cases w:k=15
  · exact .inr (.inr (.inr (.inl w)))
  by_cases I:k=16
  · exact .inr (.inr (.inr (.inr I)))
  exact absurd (bo H x C w I) h
 intro t
 induction t with
 |var n=> intro l h;cases h with
  |node h=> cases h;exact⟨.var n,rfl,.var n⟩
  |red h=> exact absurd (no h) (by decide)
 |sort n=> intro l h;cases h with
  |node h=> cases h;exact⟨.sort n,rfl,.sort n⟩
  |red h=> exact absurd (no h) (by decide)
 |nat=> intro l h;cases h with
  |node h=> cases h;exact⟨.nat,rfl,.nat⟩
  |red h=> exact absurd (no h) (by decide)
 |zero=> intro l h;cases h with
  |node h=> cases h;exact⟨.zero,rfl,.zero⟩
  |red h=> exact absurd (no h) (by decide)
 |pi A B g o=> intro l h;cases h with
  |node h=>
   cases h with
   |cons e h=>
   cases h with
   |cons i h=>
   cases h
   obtain⟨a,rfl,f⟩:=g e;obtain⟨b,rfl,j⟩:=o i;exact⟨.pi a b,rfl,.pi f j⟩
  |red h=> exact absurd (no h) (by decide)
 |lam A B g o=> intro l h;cases h with
  |node h=>
   cases h with
   |cons e h=>
   cases h with
   |cons i h=>
   cases h
   obtain⟨a,rfl,f⟩:=g e;obtain⟨b,rfl,j⟩:=o i;exact⟨.lam a b,rfl,.lam f j⟩
  |red h=> exact absurd (no h) (by decide)
 |sg A B g o=> intro l h;cases h with
  |node h=>
   cases h with
   |cons e h=>
   cases h with
   |cons i h=>
   cases h
   obtain⟨a,rfl,f⟩:=g e;obtain⟨b,rfl,j⟩:=o i;exact⟨.sg a b,rfl,.sg f j⟩
  |red h=> exact absurd (no h) (by decide)
 |id A B D g o r=> intro l h;cases h with
  |node h=>
   cases h with
   |cons e h=>
   cases h with
   |cons i h=>
   cases h with
   |cons p h=>
   cases h
   obtain⟨a,rfl,f⟩:=g e;obtain⟨b,rfl,j⟩:=o i;obtain⟨c,rfl,q⟩:=r p;exact⟨.id a b c,rfl,.id f j q⟩
  |red h=> exact absurd (no h) (by decide)
 |pair A B D g o r=> intro l h;cases h with
  |node h=>
   cases h with
   |cons e h=>
   cases h with
   |cons i h=>
   cases h with
   |cons p h=>
   cases h
   obtain⟨a,rfl,f⟩:=g e;obtain⟨b,rfl,j⟩:=o i;obtain⟨c,rfl,q⟩:=r p;exact⟨.pair a b c,rfl,.pair f j q⟩
  |red h=> exact absurd (no h) (by decide)
 |succ A g=> intro l h;cases h with
  |node h=>
   cases h with
   |cons e h=>
   cases h
   obtain⟨a,rfl,f⟩:=g e;exact⟨.succ a,rfl,.succ f⟩
  |red h=> exact absurd (no h) (by decide)
 |refl A g=> intro l h;cases h with
  |node h=>
   cases h with
   |cons e h=>
   cases h
   obtain⟨a,rfl,f⟩:=g e;exact⟨.refl a,rfl,.refl f⟩
  |red h=> exact absurd (no h) (by decide)
 |app A B g o=> intro l h;cases h with
  |node h=>
   cases h with
   |cons e h=>
   cases h with
   |cons i h=>
   cases h
   obtain⟨a,rfl,f⟩:=g e;obtain⟨b,rfl,j⟩:=o i;exact⟨.app a b,rfl,.app f j⟩
  |red hr h=>
   cases h with
   |cons e h=>
   cases h with
   |cons i h=>
   cases h
   obtain⟨a,rfl,f⟩:=g e;obtain⟨b,rfl,j⟩:=o i;cases A <;> simp[rdx,kd,Tr.kind,enc] at hr
   cases f with
   |lam F u=> exact⟨_,by show Z0 (enc b) (enc _) 0 0=_;exact tm _ _,.beta u j⟩
 |fst A g=> intro l h;cases h with
  |node h=>
   cases h with
   |cons e h=>
   cases h
   obtain⟨a,rfl,f⟩:=g e;exact⟨.fst a,rfl,.fst f⟩
  |red hr h=>
   cases h with
   |cons e h=>
   cases h
   obtain⟨a,rfl,f⟩:=g e;cases A <;> simp[rdx,kd,Tr.kind,enc] at hr
   cases f with
   |pair F u z=> exact⟨_,rfl,.fp u⟩
 |snd A g=> intro l h;cases h with
  |node h=>
   cases h with
   |cons e h=>
   cases h
   obtain⟨a,rfl,f⟩:=g e;exact⟨.snd a,rfl,.snd f⟩
  |red hr h=>
   cases h with
   |cons e h=>
   cases h
   obtain⟨a,rfl,f⟩:=g e;cases A <;> simp[rdx,kd,Tr.kind,enc] at hr
   cases f with
   |pair F u z=> exact⟨_,rfl,.sp z⟩
 |move A B D g o r=> intro l h;cases h with
  |node h=>
   cases h with
   |cons e h=>
   cases h with
   |cons i h=>
   cases h with
   |cons p h=>
   cases h
   obtain⟨a,rfl,f⟩:=g e;obtain⟨b,rfl,j⟩:=o i;obtain⟨c,rfl,q⟩:=r p;exact⟨.move a b c,rfl,.move f j q⟩
  |red hr h=>
   cases h with
   |cons e h=>
   cases h with
   |cons i h=>
   cases h with
   |cons p h=>
   cases h
   obtain⟨c,rfl,q⟩:=r p;cases B <;> simp[rdx,kd,Tr.kind,enc] at hr
   exact⟨c,rfl,.mr q⟩
 |elim A B D E g o r G=> intro l h;cases h with
  |node h=>
   cases h with
   |cons e h=>
   cases h with
   |cons i h=>
   cases h with
   |cons p h=>
   cases h with
   |cons v h=>
   cases h
   obtain⟨a,rfl,f⟩:=g e;obtain⟨b,rfl,j⟩:=o i;obtain⟨c,rfl,q⟩:=r p;obtain⟨d,rfl,s⟩:=G v;exact⟨.elim a b c d,rfl,.elim f j q s⟩
  |red hr h=>
   cases h with
   |cons e h=>
   cases h with
   |cons i h=>
   cases h with
   |cons p h=>
   cases h with
   |cons v h=>
   cases h
   obtain⟨a,rfl,f⟩:=g e;obtain⟨b,rfl,j⟩:=o i;obtain⟨c,rfl,q⟩:=r p;obtain⟨d,rfl,s⟩:=G v;cases E <;> simp[rdx,kd,Tr.kind,enc] at hr
   · cases s
     exact⟨b,rfl,.ez j⟩
   · cases s with
     |succ J=> exact⟨_,rfl,.es f j q J⟩
theorem MD{a u:Tr}(h:X6 u a): ∀{t:M.Tm},u=enc t-> ∃m,a=enc m/\M.Red t m:=by
 induction h with
 |refl=> intro t e;exact⟨t,e,.refl t⟩
 |step j d ih=>
  intro t e;obtain⟨m,i,b⟩:=ih e;subst i;obtain⟨c,g,f⟩:=ar d;exact⟨c,g,b.trans (.one f)⟩
end Go.Proofs.YtckhbnmfnpolgaaGreat
namespace Go.Proofs.YtckhbnmfnpolgaaGreat
open Go.RowKit
theorem QB{w b:aL}{a:Obj}(h:b=w.alloc a):b.heap[w.heap.size]? =some a/\w.heap.size < b.heap.size/\Ext w b:=by
 subst h;obtain⟨p,s⟩:=Xd (xr (w.alloc a));exact⟨p,s,(xr w).alloc a⟩
theorem box2{w c:aL}{a b:Obj}(h:c=(w.alloc a).alloc b):c.heap[w.heap.size]? =some a/\c.heap[w.heap.size+1]? =some b/\w.heap.size+1 < c.heap.size/\Ext w c:=by
 subst h;obtain⟨p,q,s⟩:=blk2 (xr ((w.alloc a).alloc b));exact⟨p,q,s,((xr w).alloc a).alloc b⟩
theorem Tg{w d:aL}{a b c:Obj}(h:d=((w.alloc a).alloc b).alloc c):d.heap[w.heap.size]? =some a/\d.heap[w.heap.size+1]? =some b/\d.heap[w.heap.size+1+1]? =some c/\w.heap.size+1+1 < d.heap.size/\Ext w d:=by
 subst h;obtain⟨p,q,r,s⟩:=zc (xr (((w.alloc a).alloc b).alloc c));exact⟨p,q,r,s,(((xr w).alloc a).alloc b).alloc c⟩
theorem JB{w e:aL}{a b c d:Obj}(h:e=(((w.alloc a).alloc b).alloc c).alloc d):e.heap[w.heap.size]? =some a/\e.heap[w.heap.size+1]? =some b/\e.heap[w.heap.size+1+1]? =some c/\e.heap[w.heap.size+1+1+1]? =some d/\w.heap.size+1+1+1 < e.heap.size/\Ext w e:=by
 subst h;obtain⟨p,q,r,t,s⟩:=bn (xr ((((w.alloc a).alloc b).alloc c).alloc d));exact⟨p,q,r,t,s,((((xr w).alloc a).alloc b).alloc c).alloc d⟩
theorem sy{w:aL}{g:Nat}{a:aT}{e:aZ}(b:w.heap[g]? =some (.cells #[a] e (0,0))):w.cell? ⟨g,0,none⟩=some a/\g < w.heap.size:=⟨U1 b 0,O1 b⟩
theorem cb3{w:aL}{g:Nat}{d c b:aT}{e:aZ}(a:w.heap[g]? =some (.cells #[d,c,b] e (0,0))):w.cell? ⟨g,0,none⟩=some d/\w.cell? ⟨g,1,none⟩=some c/\w.cell? ⟨g,2,none⟩=some b/\g < w.heap.size:=⟨U1 a 0,U1 a 1,U1 a 2,O1 a⟩
theorem xt{w:aL}{g:Nat}{i f b d c:aT}{e:aZ}(a:w.heap[g]? =some (.cells #[i,f,b,d,c] e (0,0))):w.cell? ⟨g,0,none⟩=some i/\w.cell? ⟨g,1,none⟩=some f/\w.cell? ⟨g,2,none⟩=some b/\w.cell? ⟨g,3,none⟩=some d/\w.cell? ⟨g,4,none⟩=some c/\g < w.heap.size:=⟨U1 a 0,U1 a 1,U1 a 2,U1 a 3,U1 a 4,O1 a⟩
theorem kC{w:aL}{g:Nat}{j i b f d c:aT}{e:aZ}(a:w.heap[g]? =some (.cells #[j,i,b,f,d,c] e (0,0))):w.cell? ⟨g,0,none⟩=some j/\w.cell? ⟨g,1,none⟩=some i/\w.cell? ⟨g,2,none⟩=some b/\w.cell? ⟨g,3,none⟩=some f/\w.cell? ⟨g,4,none⟩=some d/\w.cell? ⟨g,5,none⟩=some c/\g < w.heap.size:=⟨U1 a 0,U1 a 1,U1 a 2,U1 a 3,U1 a 4,U1 a 5,O1 a⟩
theorem cbn{w:aL}{g:Nat}{c b a:aT}{e:aZ}(d:w.heap[g]? =some (.cells #[c,b,a] e (0,0))):
 w.cell? ⟨g,0,none⟩=some c/\w.cell? ⟨g,1,none⟩=some b/\w.cell? ⟨g,2,none⟩=some a/\w.frozen? ⟨g,0,none⟩=false/\w.frozen? ⟨g,1,none⟩=false/\w.frozen? ⟨g,2,none⟩=false:=own3 d
theorem m9{w:aL}{g:Nat}{d c b:aT}{e:aZ}(a:w.heap[g]? =some (.cells #[d,c,b] e (0,0))):
 w.cell? ⟨g,0,none⟩=some d/\w.cell? ⟨g,1,none⟩=some c/\w.cell? ⟨g,2,none⟩=some b/\w.frozen? ⟨g,0,none⟩=false/\w.frozen? ⟨g,1,none⟩=false/\w.frozen? ⟨g,2,none⟩=false/\g < w.heap.size:=
 ⟨U1 a 0,U1 a 1,U1 a 2,ib a 0,ib a 1,ib a 2,O1 a⟩
theorem Ext.set3{a b:aL}(h:Ext a b){g:Nat}(c:a.heap.size<=g)(x y z:aT):Ext a (((b.setCell ⟨g,0,none⟩ x).setCell ⟨g,1,none⟩ y).setCell ⟨g,2,none⟩ z):=((h.setCell c x).setCell c y).setCell c z
theorem KD{k n:Int}{b:List Tr}{d:Int}(h:P0 D0 (.mk k n b) d=true):(U0 k=(b.length:Int))/\(k=1\/k=2\/k=3\/k=4\/k=5\/k=6\/k=7\/k=8\/k=9\/k=10\/k=11\/k=12\/k=13\/k=14\/k=15\/k=16):=by
 obtain⟨a,e,f,c⟩:=zw h;simp only[D0] at a;have hr:1<=k/\k<=16:=by
  by_cases h:1<=k/\k<=16
  · exact h
  · exfalso
    unfold U0 at a;rw[if_neg (by omega),if_neg (by omega),if_neg (by omega),if_neg (by omega),if_neg (by omega),if_neg (by omega),if_neg (by omega),if_neg (by omega),if_neg (by omega),if_neg (by omega),if_neg (by omega),if_neg (by omega),if_neg (by omega),if_neg (by omega),if_neg (by omega),if_neg (by omega)] at a;omega
 exact⟨a,by omega⟩
theorem be{a:List Tr}{j:Nat}{t:Tr}(b:j < a.length)(h:a[j]=t):kd a j=t:=by
 unfold kd;rw[List.getD_eq_getElem?_getD,List.getElem?_eq_getElem b];exact h
theorem Lr(t:Tr)(d:Int)(hsh:P0 D0 t d=true)(w:aL)(v:aT)(E:Lies w t v):Calls prog 133 #[v] w fun e F=> e= .returned (m0 (Y3 t))/\Ext w F:=by
 obtain⟨k,n,a⟩:=t;obtain⟨A,cap,rfl,hl,hc,hK⟩:=Lies.mk_iff.1 E;obtain⟨g,hk⟩:=KD hsh;unfold maxLen at hc;clear hsh E;rcases hk with rfl|rfl|rfl|rfl|rfl|rfl|rfl|rfl|rfl|rfl|rfl|rfl|rfl|rfl|rfl|rfl
 · rw[show Y3 (.mk 1 n a)=0 from rfl]
   clear g hK;go_enter func133,ntmps133;go_wp2_with fail;go_ret;exact⟨rfl,(xr _).alloc _⟩
 · rw[show Y3 (.mk 2 n a)=0 from rfl]
   clear g hK;go_enter func133,ntmps133;go_wp2_with fail;go_ret;exact⟨rfl,(xr _).alloc _⟩
 · rw[show Y3 (.mk 3 n a)=0 from rfl]
   clear g hK;go_enter func133,ntmps133;go_wp2_with fail;go_ret;exact⟨rfl,(xr _).alloc _⟩
 · rw[show Y3 (.mk 4 n a)=0 from rfl]
   clear g hK;go_enter func133,ntmps133;go_wp2_with fail;go_ret;exact⟨rfl,(xr _).alloc _⟩
 · have c:a.length=2:=by have:(2:Int)=(a.length:Int):=g;omega
   have s:(0:Int) <(a.length:Int):=by omega
   obtain⟨b,o,f,x,z,p,kids,rfl,hid,r,u,q,-,-,-,-,-⟩:=hK.get ((xr w).alloc (H0 5 n A a.length cap)) (j:=0) (by omega);simp only[cW,cU] at r;clear u q;have m:kd a 0= .mk f x kids:=be (by omega) hid.out;have l:Y3 (.mk 5 n a)=if f=4 then 1 else 0:=by show rdx 5 a=_;unfold rdx;rw[m];rfl
   rw[l];clear l m hid g hK c;by_cases B:f=4
   · subst B
     rw[if_pos rfl];go_enter func133,ntmps133;go_wp2_with fail;go_ret;exact⟨rfl,(xr _).alloc _⟩
   have H:(f==4)=false:=beq_eq_false_iff_ne.2 B;rw[if_neg B];go_enter func133,ntmps133;go_wp2_with fail;go_ret;exact⟨rfl,(xr _).alloc _⟩
 · rw[show Y3 (.mk 6 n a)=0 from rfl]
   clear g hK;go_enter func133,ntmps133;go_wp2_with fail;go_ret;exact⟨rfl,(xr _).alloc _⟩
 · rw[show Y3 (.mk 7 n a)=0 from rfl]
   clear g hK;go_enter func133,ntmps133;go_wp2_with fail;go_ret;exact⟨rfl,(xr _).alloc _⟩
 · rw[show Y3 (.mk 8 n a)=0 from rfl]
   clear g hK;go_enter func133,ntmps133;go_wp2_with fail;go_ret;exact⟨rfl,(xr _).alloc _⟩
 · have c:a.length=4:=by have:(4:Int)=(a.length:Int):=g;omega
   have s:(3:Int) <(a.length:Int):=by omega
   obtain⟨b,o,f,x,z,p,kids,rfl,hid,r,u,q,-,-,-,-,-⟩:=hK.get ((xr w).alloc (H0 9 n A a.length cap)) (j:=3) (by omega);simp only[fL] at r;clear u q;have m:kd a 3= .mk f x kids:=be (by omega) hid.out;have l:Y3 (.mk 9 n a)=if f=7 then 2 else if f=8 then 3 else 0:=by show rdx 9 a=_;unfold rdx;rw[m];rfl
   rw[l];clear l m hid g hK c;by_cases C:f=7
   · subst C
     rw[if_pos rfl];go_enter func133,ntmps133;go_wp2_with fail;go_ret;exact⟨rfl,(xr _).alloc _⟩
   by_cases D:f=8
   · subst D
     rw[if_neg (by decide),if_pos rfl];go_enter func133,ntmps133;go_wp2_with fail;go_ret;exact⟨rfl,(xr _).alloc _⟩
   have I:(f==7)=false:=beq_eq_false_iff_ne.2 C;have K:(f==8)=false:=beq_eq_false_iff_ne.2 D;rw[if_neg C,if_neg D];go_enter func133,ntmps133;go_wp2_with fail;go_ret;exact⟨rfl,(xr _).alloc _⟩
 · rw[show Y3 (.mk 10 n a)=0 from rfl]
   clear g hK;go_enter func133,ntmps133;go_wp2_with fail;go_ret;exact⟨rfl,(xr _).alloc _⟩
 · rw[show Y3 (.mk 11 n a)=0 from rfl]
   clear g hK;go_enter func133,ntmps133;go_wp2_with fail;go_ret;exact⟨rfl,(xr _).alloc _⟩
 · have c:a.length=3:=by have:(3:Int)=(a.length:Int):=g;omega
   have s:(1:Int) <(a.length:Int):=by omega
   obtain⟨b,o,f,x,z,p,kids,rfl,hid,r,u,q,-,-,-,-,-⟩:=hK.get ((xr w).alloc (H0 12 n A a.length cap)) (j:=1) (by omega);simp only[fL] at r;clear u q;have m:kd a 1= .mk f x kids:=be (by omega) hid.out;have l:Y3 (.mk 12 n a)=if f=11 then 4 else 0:=by show rdx 12 a=_;unfold rdx;rw[m];rfl
   rw[l];clear l m hid g hK c;by_cases y:f=11
   · subst y
     rw[if_pos rfl];go_enter func133,ntmps133;go_wp2_with fail;go_ret;exact⟨rfl,(xr _).alloc _⟩
   have J:(f==11)=false:=beq_eq_false_iff_ne.2 y;rw[if_neg y];go_enter func133,ntmps133;go_wp2_with fail;go_ret;exact⟨rfl,(xr _).alloc _⟩
 · rw[show Y3 (.mk 13 n a)=0 from rfl]
   clear g hK;go_enter func133,ntmps133;go_wp2_with fail;go_ret;exact⟨rfl,(xr _).alloc _⟩
 · rw[show Y3 (.mk 14 n a)=0 from rfl]
   clear g hK;go_enter func133,ntmps133;go_wp2_with fail;go_ret;exact⟨rfl,(xr _).alloc _⟩
 · have c:a.length=1:=by have:(1:Int)=(a.length:Int):=g;omega
   have s:(0:Int) <(a.length:Int):=by omega
   obtain⟨b,o,f,x,z,p,kids,rfl,hid,r,u,q,-,-,-,-,-⟩:=hK.get ((xr w).alloc (H0 15 n A a.length cap)) (j:=0) (by omega);simp only[cW,cU] at r;clear u q;have m:kd a 0= .mk f x kids:=be (by omega) hid.out;have l:Y3 (.mk 15 n a)=if f=14 then 5 else 0:=by show rdx 15 a=_;unfold rdx;rw[m];rfl
   rw[l];clear l m hid g hK c;by_cases i:f=14
   · subst i
     rw[if_pos rfl];go_enter func133,ntmps133;go_wp2_with fail;go_ret;exact⟨rfl,(xr _).alloc _⟩
   have G:(f==14)=false:=beq_eq_false_iff_ne.2 i;rw[if_neg i];go_enter func133,ntmps133;go_wp2_with fail;go_ret;exact⟨rfl,(xr _).alloc _⟩
 · have c:a.length=1:=by have:(1:Int)=(a.length:Int):=g;omega
   have s:(0:Int) <(a.length:Int):=by omega
   obtain⟨b,o,f,x,z,p,kids,rfl,hid,r,u,q,-,-,-,-,-⟩:=hK.get ((xr w).alloc (H0 16 n A a.length cap)) (j:=0) (by omega);simp only[cW,cU] at r;clear u q;have m:kd a 0= .mk f x kids:=be (by omega) hid.out;have l:Y3 (.mk 16 n a)=if f=14 then 6 else 0:=by show rdx 16 a=_;unfold rdx;rw[m];rfl
   rw[l];clear l m hid g hK c;by_cases i:f=14
   · subst i
     rw[if_pos rfl];go_enter func133,ntmps133;go_wp2_with fail;go_ret;exact⟨rfl,(xr _).alloc _⟩
   have G:(f==14)=false:=beq_eq_false_iff_ne.2 i;rw[if_neg i];go_enter func133,ntmps133;go_wp2_with fail;go_ret;exact⟨rfl,(xr _).alloc _⟩
theorem Cr(t:Tr)(d:Int)(hsh:P0 D0 t d=true)(w:aL)(v:aT)(E:Lies w t v):Calls prog 170 #[v] w fun e F=> e= .returned (m0 (Y3 t))/\Ext w F:=by
 obtain⟨k,n,a⟩:=t;obtain⟨A,cap,rfl,hl,hc,hK⟩:=Lies.mk_iff.1 E;obtain⟨g,hk⟩:=KD hsh;unfold maxLen at hc;clear hsh E;rcases hk with rfl|rfl|rfl|rfl|rfl|rfl|rfl|rfl|rfl|rfl|rfl|rfl|rfl|rfl|rfl|rfl
 · rw[show Y3 (.mk 1 n a)=0 from rfl]
   clear g hK;go_enter func170,ntmps170;go_wp2_with fail;go_ret;exact⟨rfl,(xr _).alloc _⟩
 · rw[show Y3 (.mk 2 n a)=0 from rfl]
   clear g hK;go_enter func170,ntmps170;go_wp2_with fail;go_ret;exact⟨rfl,(xr _).alloc _⟩
 · rw[show Y3 (.mk 3 n a)=0 from rfl]
   clear g hK;go_enter func170,ntmps170;go_wp2_with fail;go_ret;exact⟨rfl,(xr _).alloc _⟩
 · rw[show Y3 (.mk 4 n a)=0 from rfl]
   clear g hK;go_enter func170,ntmps170;go_wp2_with fail;go_ret;exact⟨rfl,(xr _).alloc _⟩
 · have c:a.length=2:=by have:(2:Int)=(a.length:Int):=g;omega
   have s:(0:Int) <(a.length:Int):=by omega
   obtain⟨b,o,f,x,z,p,kids,rfl,hid,r,u,q,-,-,-,-,-⟩:=hK.get ((xr w).alloc (H0 5 n A a.length cap)) (j:=0) (by omega);simp only[cW,cU] at r;clear u q;have m:kd a 0= .mk f x kids:=be (by omega) hid.out;have l:Y3 (.mk 5 n a)=if f=4 then 1 else 0:=by show rdx 5 a=_;unfold rdx;rw[m];rfl
   rw[l];clear l m hid g hK c;by_cases B:f=4
   · subst B
     rw[if_pos rfl];go_enter func170,ntmps170;go_wp2_with fail;go_ret;exact⟨rfl,(xr _).alloc _⟩
   have H:(f==4)=false:=beq_eq_false_iff_ne.2 B;rw[if_neg B];go_enter func170,ntmps170;go_wp2_with fail;go_ret;exact⟨rfl,(xr _).alloc _⟩
 · rw[show Y3 (.mk 6 n a)=0 from rfl]
   clear g hK;go_enter func170,ntmps170;go_wp2_with fail;go_ret;exact⟨rfl,(xr _).alloc _⟩
 · rw[show Y3 (.mk 7 n a)=0 from rfl]
   clear g hK;go_enter func170,ntmps170;go_wp2_with fail;go_ret;exact⟨rfl,(xr _).alloc _⟩
 · rw[show Y3 (.mk 8 n a)=0 from rfl]
   clear g hK;go_enter func170,ntmps170;go_wp2_with fail;go_ret;exact⟨rfl,(xr _).alloc _⟩
 · have c:a.length=4:=by have:(4:Int)=(a.length:Int):=g;omega
   have s:(3:Int) <(a.length:Int):=by omega
   obtain⟨b,o,f,x,z,p,kids,rfl,hid,r,u,q,-,-,-,-,-⟩:=hK.get ((xr w).alloc (H0 9 n A a.length cap)) (j:=3) (by omega);simp only[fL] at r;clear u q;have m:kd a 3= .mk f x kids:=be (by omega) hid.out;have l:Y3 (.mk 9 n a)=if f=7 then 2 else if f=8 then 3 else 0:=by show rdx 9 a=_;unfold rdx;rw[m];rfl
   rw[l];clear l m hid g hK c;by_cases C:f=7
   · subst C
     rw[if_pos rfl];go_enter func170,ntmps170;go_wp2_with fail;go_ret;exact⟨rfl,(xr _).alloc _⟩
   by_cases D:f=8
   · subst D
     rw[if_neg (by decide),if_pos rfl];go_enter func170,ntmps170;go_wp2_with fail;go_ret;exact⟨rfl,(xr _).alloc _⟩
   have I:(f==7)=false:=beq_eq_false_iff_ne.2 C;have K:(f==8)=false:=beq_eq_false_iff_ne.2 D;rw[if_neg C,if_neg D];go_enter func170,ntmps170;go_wp2_with fail;go_ret;exact⟨rfl,(xr _).alloc _⟩
 · rw[show Y3 (.mk 10 n a)=0 from rfl]
   clear g hK;go_enter func170,ntmps170;go_wp2_with fail;go_ret;exact⟨rfl,(xr _).alloc _⟩
 · rw[show Y3 (.mk 11 n a)=0 from rfl]
   clear g hK;go_enter func170,ntmps170;go_wp2_with fail;go_ret;exact⟨rfl,(xr _).alloc _⟩
 · have c:a.length=3:=by have:(3:Int)=(a.length:Int):=g;omega
   have s:(1:Int) <(a.length:Int):=by omega
   obtain⟨b,o,f,x,z,p,kids,rfl,hid,r,u,q,-,-,-,-,-⟩:=hK.get ((xr w).alloc (H0 12 n A a.length cap)) (j:=1) (by omega);simp only[fL] at r;clear u q;have m:kd a 1= .mk f x kids:=be (by omega) hid.out;have l:Y3 (.mk 12 n a)=if f=11 then 4 else 0:=by show rdx 12 a=_;unfold rdx;rw[m];rfl
   rw[l];clear l m hid g hK c;by_cases y:f=11
   · subst y
     rw[if_pos rfl];go_enter func170,ntmps170;go_wp2_with fail;go_ret;exact⟨rfl,(xr _).alloc _⟩
   have J:(f==11)=false:=beq_eq_false_iff_ne.2 y;rw[if_neg y];go_enter func170,ntmps170;go_wp2_with fail;go_ret;exact⟨rfl,(xr _).alloc _⟩
 · rw[show Y3 (.mk 13 n a)=0 from rfl]
   clear g hK;go_enter func170,ntmps170;go_wp2_with fail;go_ret;exact⟨rfl,(xr _).alloc _⟩
 · rw[show Y3 (.mk 14 n a)=0 from rfl]
   clear g hK;go_enter func170,ntmps170;go_wp2_with fail;go_ret;exact⟨rfl,(xr _).alloc _⟩
 · have c:a.length=1:=by have:(1:Int)=(a.length:Int):=g;omega
   have s:(0:Int) <(a.length:Int):=by omega
   obtain⟨b,o,f,x,z,p,kids,rfl,hid,r,u,q,-,-,-,-,-⟩:=hK.get ((xr w).alloc (H0 15 n A a.length cap)) (j:=0) (by omega);simp only[cW,cU] at r;clear u q;have m:kd a 0= .mk f x kids:=be (by omega) hid.out;have l:Y3 (.mk 15 n a)=if f=14 then 5 else 0:=by show rdx 15 a=_;unfold rdx;rw[m];rfl
   rw[l];clear l m hid g hK c;by_cases i:f=14
   · subst i
     rw[if_pos rfl];go_enter func170,ntmps170;go_wp2_with fail;go_ret;exact⟨rfl,(xr _).alloc _⟩
   have G:(f==14)=false:=beq_eq_false_iff_ne.2 i;rw[if_neg i];go_enter func170,ntmps170;go_wp2_with fail;go_ret;exact⟨rfl,(xr _).alloc _⟩
 · have c:a.length=1:=by have:(1:Int)=(a.length:Int):=g;omega
   have s:(0:Int) <(a.length:Int):=by omega
   obtain⟨b,o,f,x,z,p,kids,rfl,hid,r,u,q,-,-,-,-,-⟩:=hK.get ((xr w).alloc (H0 16 n A a.length cap)) (j:=0) (by omega);simp only[cW,cU] at r;clear u q;have m:kd a 0= .mk f x kids:=be (by omega) hid.out;have l:Y3 (.mk 16 n a)=if f=14 then 6 else 0:=by show rdx 16 a=_;unfold rdx;rw[m];rfl
   rw[l];clear l m hid g hK c;by_cases i:f=14
   · subst i
     rw[if_pos rfl];go_enter func170,ntmps170;go_wp2_with fail;go_ret;exact⟨rfl,(xr _).alloc _⟩
   have G:(f==14)=false:=beq_eq_false_iff_ne.2 i;rw[if_neg i];go_enter func170,ntmps170;go_wp2_with fail;go_ret;exact⟨rfl,(xr _).alloc _⟩
