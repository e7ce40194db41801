/-
  Package flat: lost yields conflicts of the kinds from CnLost to CnIdle. Conditions: what is read; sizes.
-/
import Derived.Test.YtknmacdbffgjgaaGreatDoorM14
set_option linter.unusedVariables false
set_option linter.unusedSimpArgs false
set_option maxRecDepth 100000
set_option maxHeartbeats 16000000
namespace Go.Ck
open Go Go.RowKit
section
variable {c:Cx} {ops:Array Oper} {K:Act->World->Prop} {rest:List Oper} {e:Env} {h hr:SH}
theorem vW {P : Program} {e : Env} {h : SH} {ty T E : TypeId} {x y : Operand} {a : Option Addr} {n cp hi sz : Nat} {i : Int} {k : IntKind} (hx : e.ev? x = some (.slice a n cp)) (hy : e.ev? y = some (.int k i)) (hT : SlE P T E sz)
  (hi':i=(hi:Int)) (h1:hi≤cp):Vop P e h (.slice T x none (some y) none) ty (.slice a hi cp):=
 ⟨by simp,by simp,λρ w d pos after g hρ _=>by
  subst hi'
  have hT':P.underlying T=some (.slice<|P.elem T):=by simp [Program.elem,hT.1]
  have he:P.elem T=E:=by simp [Program.elem,hT.1]
  have hr:=run_slice_h (P:=P) w T a n cp hT' k hi (by omega)<|by omega
  have hs:sliced a 0 hi cp sz = .slice a hi cp:=by
   unfold sliced; by_cases hcl:cp=0 <;> cases a <;> simp [hcl,Addr.add]
  simp only [he,hT.2 w,Result.andThen_ok,Int.toNat_natCast,Int.toNat_zero,hs] at hr
  simp only [execOp,hρ x _ hx,Option.map_some,Option.map_none,hρ y _ hy,Sem.run_bind,run_sliceAt_slice w T _ _ _ _ hT',hr,Result.andThen_ok,Sem.run_pure]⟩
theorem v_cap {P:Program} {e:Env} {h:SH} {t ty' E:TypeId} {x:Operand} {a:Option Addr} {n cp:Nat} (hx:e.ev? x=some (.slice a n cp)) (ht:P.underlying t=some (.slice E)) :
  Vop P e h (.call { callee:=.builtin .cap,args := #[x],argTypes := #[t] }) ty' (.int .i64 (cp:Nat)):=
 ⟨by simp,by simp,λρ w d pos after g hρ _=>by simp [execOp,resolve,invoke,builtin,hρ x _ hx,Builtin.cap_,run_underlying ht,goInt]⟩
theorem za {P:Program} {w:World} {t tx E:TypeId} (ty:TypeId) {k:IntKind} {i:TypeInfo} {z:Value} (ht:P.underlying t=some (.slice E)) (htx:P.underlying tx=some (.int k)) (hi:P.info? E=some i) (hz:i.zero=some z) {n:Nat} (h0:0<n) (hs:0<i.size) (hb:n * i.bytes≤140737488355328) (h63:n≤9223372036854775807) :
  (Builtin.append_ #[t,tx] ty #[.slice none 0 0,.int .i64 (n:Nat)]).run P w = .ok (.slice (some ⟨w.heap.size,0,none⟩) n<|grownCap w n 0 E) (w.drew.alloc<|.cells (Builtin.zeroCells z.cells n++Builtin.zeroCells z.cells (grownCap w n 0 E - n)) E):=by
 have e1:IntKind.i64.wrap (n:Int)=(n:Int):=I64.wrap (by unfold I64; omega)
 have e2:¬ ((n:Int)<0):=by omega
 have e3:¬ (281474976710656<(n:Int) * (i.bytes:Nat)):=by
  have:=Int.ofNat_le.2 hb
  rw [Int.natCast_mul] at this
  omega
 have e4:Builtin.nextslicecap n 0=n:=by unfold Builtin.nextslicecap; rw [if_pos (by omega)]
 have e5:¬ (281474976710656<n * i.bytes):=by omega
 have e6:¬ n≤0:=by omega
 have e7:¬ (n=0∨i.size=0):=by omega
 have e8:¬ ((9223372036854775807:Int)<(n:Nat)):=by omega
 have e11:max (n:Int) 0=(n:Int):=by omega
 have e9:n≠0:=by omega
 have e10:i.size≠0:=by omega
 simp [Builtin.append_,run_underlying ht,run_underlying htx,sizeOf,typeInfo,zeroValue,hi,hz,asInt,asIntOf,e1,e2,e3,e4,e5,e6,e7,e8,e9,e10,e11,Builtin.firstCells,Question.forced,newRow,grownCap,IntKind.max,IntKind.signed,IntKind.bits]
 intro hq
 have:=Nat.mul_pos h0 hs
 omega
theorem st_apm {d : Nat} {t tx E ty : TypeId} {x y : Operand} {pos : String} {after : Array Edge} {k : IntKind} {z : Value} {sz bytes n : Nat} (hx : e.ev? x = some (.slice none 0 0)) (hy : e.ev? y = some (.int .i64 (n : Nat)))
  (ht:c.P.underlying t=some (.slice E)) (htx:c.P.underlying tx=some (.int k)) (hE:Inf c.P E z sz bytes) (hzs:z.cells.size=sz) (hsz:0<sz) (h0:0<n) (hb:n * bytes≤140737488355328) (h63:n≤9223372036854775807) (hd:d<c.n)
  (hnx:∀ b cp,n≤cp->St c ops K rest ((d,.slice (some ⟨b,0,none⟩) n cp)::e) (VR (.slice (some ⟨b,0,none⟩) n cp) E sz (List.replicate n z.cells.toList)::h)) :
  St c ops K (⟨some d,.call { callee:=.builtin .append,args := #[x,y],argTypes := #[t,tx] },ty,pos,after,none⟩::rest) e h :=
 ek (by simp) λa w hk hh hw=>by
  obtain ⟨i,hi,hz,hisz,hiby⟩:=hE.parts
  subst hisz hiby
  have hr:=za (P:=c.P) (w:=w) ty ht htx hi hz h0 hsz hb h63
  simp only [execOp,resolve,invoke,builtin,hk.ev hx,hk.ev hy,Sem.run_bind,Sem.run_pure,Result.andThen_ok,List.map_toArray,List.map_cons,List.map_nil,hr]
  have hmax:maxLen=9223372036854775807:=rfl
  have hge:=grownCap_ge w n 0 E
  have hcm:grownCap w n 0 E≤maxLen:=grownCap_le_maxLen w n 0 E (by rw [hmax]; exact h63)
  have hH:Holds w.drew h:=Holds.grew hh<|Grew.drawn w _
  have hA:=Holds.alloc hH<|.cells (Builtin.zeroCells z.cells n++Builtin.zeroCells z.cells (grownCap w n 0 E - n)) E
  have hall:∀ r∈List.replicate n z.cells.toList,r.length=i.size:=λr hr=>by rw [List.eq_of_mem_replicate hr]; simpa using hzs
  have hobj:(Obj.cells (Builtin.zeroCells z.cells n++Builtin.zeroCells z.cells (grownCap w n 0 E - n)) E)=cl ([]++((List.replicate n z.cells.toList).flatten++(Builtin.zeroCells z.cells (grownCap w n 0 E - n)).toList)) E:=by
   simp only [cl,Obj.cells.injEq,and_true]
   apply Array.ext'
   simp [Dc hzs]
  rw [hobj] at hA ⊢
  refine hnx w.heap.size _ hge _ _ (hk.put _ hd) ⟨⟨hall,.inr ⟨w.heap.size,0,_,[],_,by rw [List.length_replicate],hA.1,Z,by rw [List.length_replicate]; exact hge,hcm,?_⟩⟩,λb ⟨o',m',cp',hv⟩=>?_,hA.2.2⟩<|hw.trans<|(Grew.drawn w _).toSame.trans (Grew.alloc _ _ Z).toSame
  ·have hzl:(Builtin.zeroCells z.cells (grownCap w n 0 E - n)).toList.length=(grownCap w n 0 E - n) * i.size:=by rw [Array.length_toList,size_zeroCells,hzs]
   rw [List.length_append,jb hall,List.length_replicate,hzl,<- Nat.add_mul]
   apply Nat.mul_le_mul_right; omega
  ·cases hv; exact hA.2.1 _ rfl
theorem kg {d:Nat} {f:Operand} {az:Array Operand} {ts:Array TypeId} {ty:TypeId} {pos:String} {after:Array Edge} {l:Nat} {vs:List Value} {r:Res} {R:Value->SH->Prop} {gu:Option (Nat×Bool)} {gd:Nat}
  (hgu:gu=none∨∃ g want,gu=some (g,want)/\((ops[g]?).bind (·.dst))=some gd/\e.get? gd=some (.bool want))
  (hv:e.ev? f=some (.func (.yield l) #[] #[])) (has:az.toList.mapM e.ev? = some vs) (yc:Yc c.P l vs.toArray [r] R)
  (hn:∀ v h',R v h'->St c ops K rest ((d,v)::e) (h'++hr))
  (pk:Pk h [r] hr:=by repeat (first | exact Pk.nil | (apply Pk.cons; (repeat (first | exact Sel.here | apply Sel.there))))) (hd:d<c.n:=by exact ltn rfl) :
  St c ops K (⟨some d,.call { callee:=.value f,args:=az,argTypes:=ts },ty,pos,after,gu⟩::rest) e h:=uT hgu hv has yc pk hd hn
end
end Go.Ck
namespace Go.Fl
open Go Go.RowKit Go.Ck Go.Proofs Go.Proofs.Tryz Go.Proofs.YtknmacdbffgjgaaGreatDoor Fx Go.Hr
def Yh (yl:Nat) (Φ : List Cf->Res->Prop) (Stop:Cf->Res->Prop):Prop:=∀ x rest r,Φ (x::rest) r->Yc prog yl #[cfV x] [r] λu h'=>(u = .bool true/\∃ r',Φ rest r'/\h'=[r'])∨(u = .bool false/\∃ r',Stop x r'/\h'=[r'])
def Yend (Φ : List Cf->Res->Prop) (Stop:Cf->Res->Prop) (R:List Cf) (u:Value) (r:Res):Prop:=(u = .bool true /\ Φ R r)∨(u = .bool false/\∃ x,Stop x r)
theorem rows_nm {Y:Res} {news:List (List Value)} {xs:List Nm} (h1:news.length=xs.length) (h2:∀ (i:Nat) us x,news[i]? = some us->xs[i]? = some x->Enc.rep Y us x):news=xs.map nC:=by
 refine List.ext_getElem (by rw [List.length_map,h1]) λi g1 g2=>?_
 rw [List.length_map] at g2
 have:news[i]=[sv (xs[i])]:=h2 i _ _ (Zy g1)<|Zy g2
 rw [this,List.getElem_map]; rfl
theorem ed {α β : Type} {f : α -> List β} {xs:List α} {i:Nat} (h:i<xs.length):(xs.drop i).flatMap f=f xs[i]++(xs.drop (i+1)).flatMap f:=by
 rw [List.drop_eq_getElem_cons h,List.flatMap_cons]
theorem dL {α β : Type} {f : α -> List β} {xs:List α}:(xs.drop xs.length).flatMap f=[]:=by rw [List.drop_length]; rfl
theorem ko {α β : Type} {f : α × Nat->List β} {xs:List α} {i:Nat} (h:i<xs.length):(xs.zipIdx.drop i).flatMap f=f (xs[i],i)++(xs.zipIdx.drop (i+1)).flatMap f:=by
 rw [ed Zo]
 simp
theorem mP {α β : Type} {f : α × Nat->List β} {xs:List α}:(xs.zipIdx.drop xs.length).flatMap f=[]:=by
 have:xs.zipIdx.drop xs.length=[]:=List.drop_eq_nil_of_le<|by simp
 rw [this]; rfl
theorem KA {α : Type} {ls:List (List α)} {i:Nat} (h:i<ls.length):(ls.take (i+1)).flatten=(ls.take i).flatten++ls[i]/\(ls.take i).flatten.length+(ls[i]).length≤ls.flatten.length:=by
 have h1:ls=ls.take i++ls[i]::ls.drop (i+1):=by rw [List.getElem_cons_drop,List.take_append_drop]
 have h2:=congrArg (λx=>x.flatten.length) h1
 simp only [List.flatten_append,List.flatten_cons,List.length_append] at h2
 refine ⟨by rw [List.take_succ_eq_append_getElem h,List.flatten_append,List.flatten_cons,List.flatten_nil,List.append_nil],by omega⟩
attribute [local irreducible] Go.Ck.Sub St Cd Xt Nx DrL LsW
section
variable {X Y:Res} {v v':Value} {us us':List Value}
theorem I9 {n:Nat} (hb:n * 16≤1099511627776):CtN prog 260 #[.slice none 0 0,.int .i64 (n:Nat)] [] λu T=>u.oneCell'=true/\T=VR u 9 1 []:=by
 refine aL (n:=27) func260 Z Z (len Z) λhr w0=>?_
 refine cQ<|sA Z<|sN<|nT<|cS<|cQ<|sM Z<|sV (aN Z Z)<|sK [0,1,4,6] Z<|cC Z (λh1=>?_)<|λh1=>?_
 ·exfalso
  have:=of_decide_eq_true h1
  omega
 ·refine cK<|xT<|cS<|cQ<|sM Z<|sM Z<|sV (v_cap Z underlying40)<|sM Z<|sV (aF Z underlying40)<|sV (gq (show Value.int .i64 (0 - 0)=Value.int .i64 0 from Z)<|Cb (a:=0) (b:=0) Z Z (by unfold I64; omega)) ?_
  refine sV (gq (show Value.int .i64 (((n:Nat):Int) - 0)=Value.int .i64 (n:Nat) by rw [Int.sub_zero])<|Cb (a:=(n:Nat)) (b:=0) Z Z (by unfold I64; omega)) ?_
  refine sA Z<|sK [0,1,4] Z<|cQ<|sM Z<|sV (cu Z Z)<|sK [0,1,4,16] Z<|cC Z (λh2=>?_)<|λh2=>?_
  ·have hpos:0<n:=by have:=of_decide_eq_true h2; omega
   refine cR<|sM Z<|sM Z<|sV (v_cap Z underlying40)<|sV (vW (hi:=0) Z Z jm Z<|Nat.le_refl _)<|sM Z (st_apm Z Z underlying40 underlying3 fH Z (by decide) hpos (by omega) (by omega) (ltn Z) λb cp hcp=>?_)
   refine sM Z<|sV (aF Z underlying40)<|sV (jU (hi:=0) Z Z jm Z<|Nat.zero_le _)<|qg (zu (m:=0)<|Nat.zero_le _) ?_
   rw [List.take_zero]
   refine sA Z<|sK [0,4] Z<|cQ<|sM Z<|sA Z<|sK [4] Z<|cT ?_
   exact aj Z ⟨_,Z,Z,Z⟩ sbq
  ·refine cK<|xT<|cQ<|sM Z<|sA Z<|sK [4] Z<|cT<|jC (cO 9 1) ?_
   exact aj Z ⟨_,Z,Z,Z⟩ sbq
theorem EE {ls:List (List Nm)} (hv:Ls X v ls) (hb:ls.flatten.length * 16≤1099511627776):CtN prog 205 #[v] [X] λu T=>u.oneCell'=true/\T=NR u ls.flatten:=by
 have hml:maxLen=9223372036854775807:=rfl
 obtain ⟨a,cap,rfl,hlc,hcm,_⟩:=id hv.form
 refine aL (n:=36) func205 Z Z (len Z) λhr w0=>?_
 refine cQ<|sA Z<|sN<|nT<|cQ<|sA Z<|sN<|nT<|cS<|cQ<|sM Z<|sV (aF Z underlying325)<|sM Z ?_
 refine sN<|nT<|cB<|aX (σ := Nat) (λq=>[(0,.slice a ls.length cap),(3,.int .i64 ((ls.take q).flatten.length:Nat)),(9,.slice a ls.length cap),(10,.int .i64 ls.length),(11,.int .i64 (q:Nat))]) (λq=>X::hr) (λq=>q≤ls.length) (λq=>ls.length - q) 0 (Nat.zero_le _) ?_
 intro i hi
 dsimp only
 refine cQ<|sV (aN Z Z)<|sN<|nT<|cS<|cC Z (λhd=>?_)<|λhd=>?_
 ·have hlt:i<ls.length:=Zx
  obtain ⟨b,o,cap2,us,e1,hus,hrd,u1,rfl,hu1⟩:=hv.at<|Zy hlt
  cases e1
  have hrd1:Rd X ⟨b,o+i * 1,none⟩ u1:=hrd 0<|by simp
  obtain ⟨htk,hsz⟩:=KA hlt
  generalize ls[i]=xs at hu1 htk hsz
  obtain ⟨ua,uc,rfl,_⟩:=id hu1.form
  refine cK<|xT<|cS<|cB<|cQ<|sV (vI (k:=i) Z Z sl325 Z hlt Z)<|sV (vY Z fI (ha:=⟨_,_,slq,hrd1⟩)) ?_
  refine sA Z<|sK [0,3,5,9,10,11] Z<|cQ<|sM Z<|sM Z<|sV (aF Z underlying40)<|sV (aI Z Z Za)<|sA Z<|sK [0,3,9,10,11] Z<|cQ<|sM Z<|sV (aN Z Z) ?_
  refine sK [0,3,9,10,11,20] Z<|cC Z (λhneg=>?_)<|λhneg=>?_
  ·exfalso
   have:=of_decide_eq_true hneg
   omega
  ·refine cK<|xB<|xT<|cR<|sV (aI Z Z Za)<|sM Z<|sN<|nK [0,3,9,10,11] Z<|ax ?_
   rw [show (((ls.take i).flatten.length:Nat):Int)+(xs.length:Nat)=(((ls.take (i+1)).flatten.length:Nat):Int) by rw [htk,List.length_append]; omega]
   refine aJ (i+1) hlt (by show _ - _<_ - _; omega)
 ·have hie:i=ls.length:=by
   have:¬ i<ls.length:=Zx
   omega
  subst hie
  rw [List.take_length]
  refine aB<|xE<|xE<|xY<|xT<|cQ<|sM Z<|aH Z Z en260 Z (I9 hb) ?_
  rintro u h' ⟨T,rfl,hu,rfl⟩
  simp only [lC,lN]
  refine sA Z<|sK [0,6] Z<|cS<|cQ<|sM Z<|sV (aF Z underlying325)<|sM Z<|sK [6,25,26,27] Z<|cB<|aX (σ := Value×Nat) (λq=>[(6,q.1),(25,.slice a ls.length cap),(26,.int .i64 ls.length),(27,.int .i64 (q.2:Nat))]) (λq=>VR q.1 9 1 ((ls.take q.2).flatten.map nC)::X::hr) (λq=>q.2≤ls.length/\q.1.oneCell'=true) (λq=>ls.length - q.2) (u,0) ⟨Nat.zero_le _,hu⟩ ?_
  rintro ⟨w,i⟩ ⟨hi,hw⟩
  simp only at hi hw
  dsimp only
  refine cQ<|sV (aN Z Z)<|sN<|nT<|cS<|cC Z (λhd2=>?_)<|λhd2=>?_
  ·have hlt:i<ls.length:=Zw
   obtain ⟨b,o,cap2,us,e1,hus,hrd,u1,rfl,hu1⟩:=hv.at<|Zy hlt
   cases e1
   have hrd1:Rd X ⟨b,o+i * 1,none⟩ u1:=hrd 0<|by simp
   obtain ⟨htk,hsz⟩:=KA hlt
   generalize ls[i]=xs at hu1 htk hsz
   obtain ⟨ua,uc,rfl,_⟩:=id hu1.form
   refine cK<|xT<|cS<|cB<|cQ<|sV (vI (k:=i) Z Z sl325 Z hlt Z)<|sV (vY Z fI (ha:=⟨_,_,slq,hrd1⟩)) ?_
   refine sA Z<|sK [6,8,25,26,27] Z<|cR<|sM Z<|sM Z (rA hu1.1 Z Z underlying40 fH Z (by decide) (show Sel _ (VR w 9 1<|(ls.take i).flatten.map nC) _ from slq) (show Sel _ X _ from slq) (λus x _ hr u hu=>List.all_eq_true.1 (Enc.ones hr) u hu) (by rw [List.length_map]; omega) (by rw [List.length_map]; omega) (ltn Z) λw2 news hw2 hn1 hn2 hn3=>?_)
   rw [rows_nm hn1 hn3,<- List.map_append,<- htk]
   refine sA Z<|sN<|nK [6,25,26,27] Z<|ax<|xB<|xT<|cR<|sV (aI Z Z Za)<|sM Z<|sN<|nK [6,25,26,27] Z<|ax ?_
   refine aJ (w2,i+1) ⟨hlt,hw2⟩ (by dsimp only; omega)
  ·have hie:i=ls.length:=by
    have:¬ i<ls.length:=Zw
    omega
   subst hie
   rw [List.take_length]
   refine aB<|xE<|xE<|xY<|xT<|cQ<|sM Z<|sA Z<|sK [2] Z<|cT ?_
   exact aj Z ⟨_,Z,hw,Z⟩ sbq
end
end Go.Fl
namespace Go.Fl
open Go Go.RowKit Go.Ck Go.Proofs Go.Proofs.Tryz Go.Proofs.YtknmacdbffgjgaaGreatDoor Fx Go.Hr
theorem Ja {b:Nat} {x:Cm} {x2 x5 y x11 x12 x13:Value}:Rds (pt b (cl (oC x x2 x5 y x11 x12 x13) 191)) b (0+3) (gz x.mem x2 x5 y x11 x12 x13):=bF (k:=3) ah rfl
theorem nu {b:Nat} {x:Cm} {x2 x5 y x11 x12 x13:Value}:Rds (pt b (cl (oC x x2 x5 y x11 x12 x13) 191)) b (0+0) [sv x.og.par,sv x.og.name]:=bF (k:=0) ah rfl
attribute [local irreducible] Go.Ck.Sub St Cd Xt Nx DrL LsW
section
variable {X Y:Res} {v v':Value} {us us':List Value}
theorem Jb {a b:Cm} (h:Enc.rep X us a) (h':Enc.rep X us' b):Reads prog 208 #[.agg us.toArray,.agg us'.toArray] [] (.bool true):=by
 refine aL (n:=5) func208 Z Z (len Z) λhr w0=>?_
 refine cQ (aP Z Z λb2=>?_)
 refine aP Z Z λb3=>?_
 refine sA Z<|sK [4] Z<|cQ<|sA Z<|sN<|nT<|cT ?_
 exact aj Z ⟨Z,Z⟩ sbq
theorem Jc {f:Fe} {x:Cm} (h:Enc.rep X us f) (h':Enc.rep X us' x):Reads prog 209 #[.agg us.toArray,.agg us'.toArray] [] (.bool (x.mem.kind == 1)):=by
 obtain ⟨x2,x5,xy,x11,x12,x13,rfl,_⟩:=gZ h'
 unfold oC
 refine aL (n:=9) func209 Z Z (len Z) λhr w0=>?_
 refine cQ (aP Z Z λb2=>?_)
 refine aP Z Z λb3=>?_
 refine sA Z<|sK [3,4] Z<|cQ<|sV (vF Z dS Z)<|sV (vF Z Ah Z)<|sV (vY Z ld3) ?_
 refine sV (dP Z Z)<|sA Z<|sK [4] Z<|cT ?_
 exact aj Z ⟨Z,Z⟩ sbq
theorem Jd {f:Fe} {x:Cm} (h:Enc.rep X us f) (h':Enc.rep X us' x):Reads prog 211 #[.agg us.toArray,.agg us'.toArray] [X] (.bool (f.kind == 3 && !x.dfd)):=by
 have hd:=AZ h'
 have hl:=Enc.len h'
 obtain ⟨x2,x3,fy,x9,x10,x11,x12,x13,x14,rfl,-⟩:=nk h
 unfold Bf
 refine aL (n:=13) func211 Z Z (len Z) λhr w0=>?_
 refine cQ (aP Z Z λb2=>?_)
 refine aP Z Z λb3=>?_
 refine sA Z<|sK [2,3,4] Z<|cQ<|sV (vF Z vC Z)<|sV (vY Z ld3) ?_
 refine sV (dP Z Z)<|sM Z ?_
 cases hk:f.kind == 3
 ·rw [Bool.false_and]
  iterate 3 refine aC rfl rfl rfl ?_
  refine sV (vP Z Z)<|sA Z<|sK [4] Z<|cT ?_
  exact aj Z ⟨Z,Z⟩ sbq
 ·rw [Bool.true_and]
  refine sG Z Z (af Z gV hl ah) ?_
  refine bU Z Z Z Z Fs Z (hd) ?_
  refine sG Z Z (bg Z)<|sV (vQ Z Z)<|sA Z<|sK [4] Z<|cT ?_
  exact aj Z ⟨Z,Z⟩ sbq
theorem Je {a b:Cm} (h:Enc.rep X us a) (h':Enc.rep X us' b):Reads prog 217 #[.agg us.toArray,.agg us'.toArray] [X] (.bool ((!a.dfd && !b.dfd) && !Sk.same a.mem b.mem)):=by
 have hd:=AZ h
 have hd':=AZ h'
 have hl:=Enc.len h
 have hl':=Enc.len h'
 obtain ⟨x2,x5,xy,x11,x12,x13,rfl,hx⟩:=gZ h
 obtain ⟨y2,y5,yy,y11,y12,y13,rfl,hy⟩:=gZ h'
 have hs:=same_ct (qj hx)<|qj hy
 unfold oC gz at *
 refine aL (n:=21) func217 Z Z (len Z) λhr w0=>?_
 refine cQ (aP Z Z λb2=>?_)
 refine aP Z Z λb3=>?_
 refine sA Z<|sK [2,3,4] Z<|cQ<|sV (af Z gV hl ah) ?_
 refine aY Z Z Fs Z (hd) ?_
 refine sV (bg Z)<|sM Z ?_
 cases hk:a.dfd
 ·rw [Bool.not_false,Bool.true_and]
  refine sG Z Z (af Z gV hl' ah) ?_
  refine bU Z Z Z Z Fs Z (hd') ?_
  refine sG Z Z (bg Z)<|sV (vQ Z Z)<|sM Z ?_
  cases hk2:b.dfd
  ·rw [Bool.not_false,Bool.true_and]
   refine sG Z Z (vF Z dS Z)<|sG Z Z (af Z eU Z<|Ja (x:=a)) ?_
   refine sG Z Z (vF Z dS Z)<|sG Z Z (af Z eU Z<|Ja (x:=b)) ?_
   refine bU Z Z Z Z en218 Z (hs) ?_
   refine sG Z Z (bg Z)<|sV (vQ Z Z)<|sA Z<|sK [4] Z<|cT ?_
   exact aj Z ⟨Z,Z⟩ sbq
  ·rw [Bool.not_true,Bool.false_and]
   iterate 6 refine aC rfl rfl rfl ?_
   refine sV (vP Z Z)<|sA Z<|sK [4] Z<|cT ?_
   exact aj Z ⟨Z,Z⟩ sbq
 ·rw [Bool.not_true,Bool.false_and,Bool.false_and]
  iterate 3 refine aC rfl rfl rfl ?_
  refine sV (vP Z Z)<|sM Z<|aC Z Z Z ?_
  iterate 5 refine aC rfl rfl rfl ?_
  refine sV (vP Z Z)<|sA Z<|sK [4] Z<|cT ?_
  exact aj Z ⟨Z,Z⟩ sbq
theorem Jf {m:Mb} {d:Sd} {b1:Nat} (h:Enc.rep X us m) (hrd:Rds X b1 0 [sv d.cls,sv d.name]):Reads prog 269 #[.agg us.toArray,.pointer (some ⟨b1,0,none⟩)] [X] (.bool (!m.seeds.contains d)):=by
 obtain ⟨x2,x5,xy,x11,x12,x13,rfl,hx2,_⟩:=dh h
 obtain ⟨ax2,kx2,rfl,_⟩:=id hx2.form
 unfold gz
 refine aL (n:=9) func269 Z Z (len Z) λhr w0=>?_
 refine cQ (aP Z Z λb2=>?_)
 refine sA Z<|sK [1,2,3] Z<|cQ<|sV (vF Z dX Z)<|sV (vY Z nO) ?_
 refine sV (af Z il Z hrd) ?_
 refine aY Z Z en33 Z (rD hx2) ?_
 refine sV (bg Z)<|sA Z<|sK [3] Z<|cT ?_
 exact aj Z ⟨Z,Z⟩ sbq
theorem Jg {ms:List Mb} {d:Sd} {b1:Nat} {mv:Value} (h:Enc.rep X us d) (hrd:Rd X ⟨b1,9,none⟩ mv) (hm:Ls X mv ms):Reads prog 220 #[.agg us.toArray,.pointer (some ⟨b1,0,none⟩)] [X] (.bool (decide (1<(aZ ms d).length))):=by
 have hus:us=[sv d.cls,sv d.name]:=h
 subst hus
 refine aL (n:=10) func220 Z Z (len Z) λhr w0=>?_
 refine cQ (aP Z Z λb2=>?_)
 refine sA Z<|sK [1,2,3] Z<|cQ<|sV (vF Z mE Z)<|sV (vY Z tJ (ha:=⟨_,_,slq,hrd⟩)) ?_
 refine sV (af Z il Z ah) ?_
 refine aH Z Z Fp Z (lI (s:=d) hm) ?_
 rintro u h' ⟨T,rfl,hu,rfl⟩
 simp only [lC,lN]
 unfold NR
 refine jr (v:=u) (E:=9) (sz:=1) (rows:=(aZ ms d).map nC) slq λwa wc hwf hwl hwm=>?_
 rw [List.length_map] at hwf hwl
 subst hwf
 refine sV (aF Z underlying40)<|sV (cu Z Z)<|sA Z<|sK [3] Z<|cT ?_
 rw [show decide ((1:Int)<((aZ ms d).length:Nat))=decide (1<(aZ ms d).length) by rw [Bool.eq_iff_iff]; simp; omega]
 exact aj Z ⟨Z,Z⟩ sbq
theorem Jh {f:Fe} {x:Cm} {p:Pt} {c:FC} {b2:Nat} {pv:Value} (h:Enc.rep X us f) (h':Enc.rep X us' x) (hrd:Rd X ⟨b2,5,none⟩ pv) (hpv:Ls X pv c.pars) (hp:c.pars[x.par]? = some p) (hl:p.red.length≤1099511627776):Reads prog 210 #[.agg us.toArray,.agg us'.toArray,.pointer (some ⟨b2,0,none⟩)] [X] (.bool (!x.dfd && !p.red.contains f.name)):=by
 have hd:=AZ h'
 have hlx:=Enc.len h'
 have hplt:=(List.getElem?_eq_some_iff.1 hp).1
 obtain ⟨x2,x5,xy,x11,x12,x13,rfl,_⟩:=gZ h'
 obtain ⟨y2,y3,fy,y9,y10,y11,y12,y13,y14,rfl,-⟩:=nk h
 obtain ⟨pb,po,pcap,pus,rfl,hpus,hprd,hpr⟩:=hpv.at hp
 obtain ⟨pa,pr,pu,pd,pS,rfl,hpa,hpr,hpu,hpd,hpsel⟩:=hpr
 unfold oC Bf at *
 have hct:=fw (EA hpd) f.name hl
 refine aL (n:=23) func210 Z Z (len Z) λhr w0=>?_
 refine cQ (aP Z Z λb3=>?_)
 refine aP Z Z λb4=>?_
 refine sA Z<|sK [2,3,4,5] Z<|cS<|bB (ork [(0,1),(1,1),(2,2),(3,2),(4,2),(5,2),(6,1),(7,2),(8,1),(9,2),(10,2),(11,1),(12,2),(13,1),(14,1),(15,2),(16,2),(17,2)] .nil) (λ_=>true) mixed Zz ?_
 refine bu Z (af Z gV hlx ah) ?_
 refine jG Z Z Z Fs Z (hd) ?_
 refine dV Z (bg Z)<|dV Z (vM Z) ?_
 cases hk:x.dfd
 ·rw [Bool.not_false,Bool.true_and]
  refine fG Z Z Z (vF Z gM Z)<|fG Z Z Z (vF Z eY Z)<|lw Z Z Z (vY Z lZ (ha:=⟨_,_,slq,hrd⟩)) ?_
  refine fG Z Z Z (vF Z zm Z)<|lw Z Z Z (vY Z ld3) ?_
  refine fG Z Z Z (vI (k:=x.par) Z Z oL Z hplt Z)<|fG Z Z Z (vF Z xq Z)<|lw Z Z Z (vY Z fI (ha:=⟨_,_,slq,hprd 4<|by simp⟩)) ?_
  refine fG Z Z Z (vF Z oU Z)<|lw Z Z Z (vY Z ld9) ?_
  refine zf Z Z Z Z Z Ea Z (hct) ?_
  refine fG Z Z Z (bg Z)<|dV Z (vQ Z Z)<|dV Z (vA Z)<|bA<|nK [5] Z<|nT<|cT ?_
  exact aj Z ⟨Z,Z⟩ sbq
 ·rw [Bool.not_true,Bool.false_and]
  iterate 2 refine jB rfl rfl rfl rfl ?_
  refine lD Z Z Z Z ?_
  refine jB Z Z Z Z ?_
  refine lD Z Z Z Z ?_
  iterate 2 refine jB rfl rfl rfl rfl ?_
  refine lD Z Z Z Z ?_
  refine jB Z Z Z Z ?_
  iterate 2 refine lD rfl rfl rfl rfl ?_
  refine jB Z Z Z Z ?_
  refine dV Z (vP Z Z)<|dV Z (vA Z)<|bA<|nK [5] Z<|nT<|cT ?_
  exact aj Z ⟨Z,Z⟩ sbq
def kQ {α : Type} (S:Sk) (l:List α) (is : α -> α -> Bool) (f : α -> α -> Cf) (a : α × Nat) (k:Nat):List Cf:=(l.zipIdx.drop k).flatMap λb=>if a.2=b.2∨(S.all=false/\b.2<a.2)∨is a.1 b.1=false then [] else [f a.1 b.1]
theorem vX (S:Sk) (x:Cf) (t:List Cf):S.cut (x::t)=x::(if S.all then t else []):=by
 unfold Sk.cut
 cases S.all <;> rfl
theorem EF {α : Type} {S:Sk} {l:List α} {is : α -> α -> Bool} {f : α -> α -> Cf} {a : α × Nat} {k:Nat} (h:k<l.length):kQ S l is f a k=(if a.2=k∨(S.all=false/\k<a.2)∨is a.1 l[k]=false then [] else [f a.1 l[k]])++kQ S l is f a (k+1):=by
 unfold kQ
 rw [ko h]
theorem Bq {α : Type} {S:Sk} {l:List α} {is : α -> α -> Bool} {f : α -> α -> Cf} {a : α × Nat}:kQ S l is f a l.length=[]:=by
 unfold kQ
 rw [mP]
theorem Hd {yl : Nat} {Φ : List Cf -> Res -> Prop} {Stop : Cf -> Res -> Prop} (hy : Yh yl Φ Stop) {S : Sk} {all : Bool} (hall : S.all = all) {l : List Cm} {kf : FuncId} {is : Cm -> Cm -> Bool} (hE : Ck.Enters prog kf) (his : ∀ a ∈ l, ∀ b ∈ l, ∀ us us' : List Value, Enc.rep X us a -> Enc.rep X us' b -> Reads prog kf #[.agg us.toArray, .agg us'.toArray] [X] (.bool (is a b)))
  (hv:Ls X v l) {vv fv ca cb ce cf ci mv bv:Value} (kk:Int) (R:List Cf) (r0:Res) (h0 : Φ (S.cpairs l kk is++R) r0) :
  Ct prog 207 #[.agg (eX vv fv S.c ca cb ce cf ci mv bv all).toArray,v,.int .i64 kk,.func (.func kf) #[] #[],.func (.yield yl) #[] #[]] [X,r0] λu h'=>∃ r,h'=[X,r]/\Yend Φ Stop R u r:=by
 obtain ⟨a,cap,rfl,hlc,hcm,_⟩:=id hv.form
 have hml:maxLen=9223372036854775807:=rfl
 have hcn:=λb=>fQ (fv:=fv) (c:=S.c) (v:=vv) (ca:=ca) (cb:=cb) (ce:=ce) (cf:=cf) (ci:=ci) (mv:=mv) (bv:=bv) (all:=all) b
 unfold eX at *
 refine aL (n:=67) func207 Z Z (len Z) λhr w0=>?_
 refine cQ (aP Z Z λb5=>?_)
 refine sA Z<|sK [1,2,3,4,5,10] Z<|cS<|cQ<|sM Z<|sV (aF Z underlying187)<|sM Z<|sN<|nT<|cB<|aX (σ := Res×Nat) (λq=>[(1,.slice a l.length cap),(2,.int .i64 kk),(3,.func (.func kf) #[] #[]),(4,.func (.yield yl) #[] #[]),(5,.pointer (some ⟨b5,0,none⟩)),(15,.slice a l.length cap),(16,.int .i64 l.length),(17,.int .i64 (q.2:Nat))]) (λq=>pt b5 (cl [vv,fv,sv S.c.name,.bool S.c.dfd,ca,cb,ce,cf,ci,mv,bv,.bool all] 206)::X::q.1::hr) (λq=>q.2≤l.length /\ Φ (S.cut ((l.zipIdx.drop q.2).flatMap λa=>kQ S l is (λa b=>S.cf kk a.mem.name a.og b.og) a 0)++R) q.1) (λq=>l.length - q.2) (r0,0) ⟨Nat.zero_le _,h0⟩ ?_
 rintro ⟨r,i⟩ ⟨hi,hΦ⟩
 simp only at hi hΦ
 dsimp only
 refine cQ<|sV (aN Z Z)<|sN<|nT<|cS<|cC Z (λhd=>?_)<|λhd=>?_
 ·have hlt:i<l.length:=Zx
  rw [ko hlt] at hΦ
  have hai:=List.getElem_mem hlt
  obtain ⟨ab,ao,acap,aus,e1,haus,hard,hare⟩:=hv.at<|Zy hlt
  obtain ⟨rfl,rfl⟩:a=some ⟨ab,ao,none⟩/\cap=acap:=by cases e1; exact ⟨rfl,rfl⟩
  have hisa:=his _ hai
  generalize hxa:l[i]=x at hΦ hare hisa
  have hone:=Enc.ones hare
  have hre:=hare
  obtain ⟨x2,x5,xy,x11,x12,x13,rfl,hxm⟩:=gZ hare
  have hogx:=λb=>nu (b:=b) (x:=x) (x2:=x2) (x5:=x5) (y:=xy) (x11:=x11) (x12:=x12) (x13:=x13)
  unfold oC at *
  refine cK<|xT<|cS<|cB<|cQ<|sM Z<|sV (vI (k:=i) Z Z lF Z hlt Z)<|sV (af Z gV Z hard) ?_
  refine au qR λb12=>?_
  refine sA Z<|ai Z Z mr Z hone ?_
  refine sK [1,2,3,4,5,11,12,15,16,17] Z<|cQ<|sM Z<|sV (aF Z underlying187)<|sM Z<|sN<|nT<|cB<|aX (σ := Res×Nat) (λq=>[(1,.slice (some ⟨ab,ao,none⟩) l.length cap),(2,.int .i64 kk),(3,.func (.func kf) #[] #[]),(4,.func (.yield yl) #[] #[]),(5,.pointer (some ⟨b5,0,none⟩)),(15,.slice (some ⟨ab,ao,none⟩) l.length cap),(16,.int .i64 l.length),(17,.int .i64 (i:Nat)),(11,.int .i64 (i:Nat)),(12,.pointer (some ⟨b12,0,none⟩)),(22,.slice (some ⟨ab,ao,none⟩) l.length cap),(23,.int .i64 l.length),(24,.int .i64 (q.2:Nat))]) (λq=>pt b12 (cl [sv x.og.par,sv x.og.name,.int .i64 x.par,sv x.mem.name,.int .i64 x.mem.kind,x2,sv x.mem.impl.cls,sv x.mem.impl.name,x5,.int .i64 x.mem.ty.kind,sv x.mem.ty.name,xy,.bool x.mem.ty.void,.bool x.mem.ty.sep,x11,x12,x13,.int .i64 x.was] 191)::pt b5 (cl [vv,fv,sv S.c.name,.bool S.c.dfd,ca,cb,ce,cf,ci,mv,bv,.bool all] 206)::X::q.1::hr) (λq=>q.2≤l.length /\ Φ (S.cut (kQ S l is (λa b=>S.cf kk a.mem.name a.og b.og) (x,i) q.2++(l.zipIdx.drop (i+1)).flatMap λa=>kQ S l is (λa b=>S.cf kk a.mem.name a.og b.og) a 0)++R) q.1) (λq=>l.length - q.2) (r,0) ⟨Nat.zero_le _,hΦ⟩ ?_
  clear hΦ
  rintro ⟨r,k⟩ ⟨hk,hΦ⟩
  simp only at hk hΦ
  dsimp only
  refine cQ<|sV (aN Z Z)<|sN<|nT<|cS<|cC Z (λhd2=>?_)<|λhd2=>?_
  ·have hltk:k<l.length:=Zw
   rw [EF hltk] at hΦ
   have hbi:=List.getElem_mem hltk
   obtain ⟨bb,bo,bcap,bus,e2,hbus,hbrd,hbre⟩:=hv.at<|Zy hltk
   obtain ⟨rfl,rfl⟩:ab=bb/\ao=bo:=by cases e2; exact ⟨rfl,rfl⟩
   have hisb:=λus'=>hisa _ hbi _ us' hre
   generalize l[k]=y at hΦ hbre hisb
   have honeb:=Enc.ones hbre
   have hisy:=hisb _ hbre
   obtain ⟨y2,y5,yy,y11,y12,y13,rfl,hym⟩:=gZ hbre
   have hogy:=λb=>nu (b:=b) (x:=y) (x2:=y2) (x5:=y5) (y:=yy) (x11:=y11) (x12:=y12) (x13:=y13)
   unfold oC at *
   refine cK<|xT<|cS<|cB<|cQ<|sM Z<|sV (vI (k:=k) Z Z lF Z hltk Z)<|sV (af Z gV Z hbrd) ?_
   refine au qR λb14=>?_
   refine sA Z<|ai Z Z mr Z honeb ?_
   refine sK [1,2,3,4,5,11,12,13,14,15,16,17,22,23,24] Z<|cS<|cQ<|sM Z<|sM Z<|sV (dP Z Z)<|sM Z ?_
   by_cases hik:i=k
   ·have hq:(((i:Nat):Int) == ((k:Nat):Int))=true:=by rw [hik]; simp
    rw [hq]
    iterate 4 refine aC rfl rfl rfl ?_
    refine bS Z Z ?_
    refine bS Z Z ?_
    refine bS Z Z ?_
    refine aC Z Z Z ?_
    refine sV (vQ Z Z)<|sM Z<|aC Z Z Z ?_
    iterate 4 refine aC rfl rfl rfl ?_
    refine sV (vQ Z Z)<|sK [1,2,3,4,5,11,12,14,15,16,17,22,23,24,48] Z<|aQ Z ?_
    refine aB<|xE<|xY<|xT<|cR<|sV (aI Z Z Za)<|sM Z<|sN<|nK [1,2,3,4,5,11,12,15,16,17,22,23,24] Z<|ax ?_
    refine aJ (r,k+1) ⟨hltk,by rw [if_pos (.inl hik)] at hΦ; exact hΦ⟩ (by dsimp only; omega)
   ·have hq:(((i:Nat):Int) == ((k:Nat):Int))=false:=by simp; omega
    rw [hq]
    refine sG Z Z (vF Z oW Z)<|sG Z Z (vY Z ld4) ?_
    refine sG Z Z (bg Z)<|sG Z Z (vM Z) ?_
    cases all
    ·refine sG Z Z (vM Z)<|sG Z Z (vM Z)<|sG Z Z (aN Z Z)<|sG Z Z (vQ Z Z)<|sV (vP Z Z)<|sM Z ?_
     by_cases hki:k<i
     ·have hq2:decide (((k:Nat):Int)<((i:Nat):Int))=true:=by simp; omega
      rw [hq2]
      iterate 5 refine aC rfl rfl rfl ?_
      refine sV (vQ Z Z)<|sK [1,2,3,4,5,11,12,14,15,16,17,22,23,24,48] Z<|aQ Z ?_
      refine aB<|xE<|xY<|xT<|cR<|sV (aI Z Z Za)<|sM Z<|sN<|nK [1,2,3,4,5,11,12,15,16,17,22,23,24] Z<|ax ?_
      refine aJ (r,k+1) ⟨hltk,by rw [if_pos (.inr<|.inl ⟨hall,hki⟩)] at hΦ; exact hΦ⟩ (by dsimp only; omega)
     ·have hq2:decide (((k:Nat):Int)<((i:Nat):Int))=false:=by simp; omega
      rw [hq2]
      refine sG Z Z (vM Z)<|sG Z Z (af Z gV Z ah) ?_
      refine sG Z Z (af Z gV Z ah) ?_
      refine bU Z Z Z Z hE Z (hisy) ?_
      refine sG Z Z (bg Z)<|sV (vP Z Z)<|sK [1,2,3,4,5,11,12,14,15,16,17,22,23,24,48] Z<|cC Z (λhn=>?_)<|λhn=>?_
      ·have hn:is x y=false:=Zk
       refine aB<|xE<|xY<|xT<|cR<|sV (aI Z Z Za)<|sM Z<|sN<|nK [1,2,3,4,5,11,12,15,16,17,22,23,24] Z<|ax ?_
       refine aJ (r,k+1) ⟨hltk,by rw [if_pos (.inr<|.inr hn)] at hΦ; exact hΦ⟩ (by dsimp only; omega)
      ·have hn:¬ is x y=false:=Zk
       have hΦ3 : Φ (S.cf kk x.mem.name x.og y.og::((if S.all then kQ S l is (λa b=>S.cf kk a.mem.name a.og b.og) (x,i) (k+1)++(l.zipIdx.drop (i+1)).flatMap (λa=>kQ S l is (λa b=>S.cf kk a.mem.name a.og b.og) a 0) else [])++R)) r:=by
        rw [if_neg (λh=>h.elim hik λh=>h.elim (λh=>hki h.2) hn)] at hΦ
        rw [lC,lN,List.cons_append,vX] at hΦ
        exact hΦ
       refine cK<|xT<|cS<|cQ<|sM Z<|sV (af Z fC Z ah) ?_
       refine sM Z<|sV (vF Z dS Z)<|sV (vF Z eB Z)<|sV (vY Z ld9) ?_
       refine sV (vF Z jo Z)<|sV (af Z qm Z<|nu (x:=x)) ?_
       refine sV (vF Z jo Z)<|sV (af Z qm Z<|nu (x:=y)) ?_
       refine aY Z Z jS Z (hcn kk x.mem.name x.og y.og) ?_
       refine kg (gd:=0) (.inl Z) Z Z (hy _ _ _ hΦ3) ?_
       rintro u h' (⟨rfl,r',hΦ4,rfl⟩ | ⟨rfl,r',hst,rfl⟩)
       ·simp only [lC,lN]
        refine sV (bg Z)<|sK [1,2,3,4,5,11,12,15,16,17,22,23,24,61] Z<|aG Z ?_
        refine cK<|xT<|cQ<|sV (vF Z oW Z)<|sV (vY Z ld4) ?_
        refine sV (bg Z)<|sK [1,2,3,4,5,11,12,15,16,17,22,23,24,64] Z<|aQ Z ?_
        refine cQ<|sA Z<|sK [10] Z<|cT<|xW<|xR<|xR<|xW<|xW<|xR<|xR<|xW<|xR ?_
        rw [hall] at hΦ4
        exact aj Z ⟨r',Z,.inl ⟨Z,hΦ4⟩⟩ sbq
       ·simp only [lC,lN]
        refine sV (bg Z)<|sK [1,2,3,4,5,11,12,15,16,17,22,23,24,61] Z<|aQ Z ?_
        refine cQ<|sA Z<|sK [10] Z<|cT<|xR<|xW<|xR<|xR<|xW<|xW<|xR<|xR<|xW ?_
        refine xR ?_
        exact aj Z ⟨r',Z,.inr ⟨Z,_,hst⟩⟩ sbq
    ·iterate 3 refine aC rfl rfl rfl ?_
     refine sG Z Z (vP Z Z)<|sV (vP Z Z)<|sM Z<|sG Z Z (vM Z)<|sG Z Z (af Z gV Z ah) ?_
     refine sG Z Z (af Z gV Z ah) ?_
     refine bU Z Z Z Z hE Z (hisy) ?_
     refine sG Z Z (bg Z)<|sV (vP Z Z)<|sK [1,2,3,4,5,11,12,14,15,16,17,22,23,24,48] Z<|cC Z (λhn=>?_)<|λhn=>?_
     ·have hn:is x y=false:=Zk
      refine aB<|xE<|xY<|xT<|cR<|sV (aI Z Z Za)<|sM Z<|sN<|nK [1,2,3,4,5,11,12,15,16,17,22,23,24] Z<|ax ?_
      refine aJ (r,k+1) ⟨hltk,by rw [if_pos (.inr<|.inr hn)] at hΦ; exact hΦ⟩ (by dsimp only; omega)
     ·have hn:¬ is x y=false:=Zk
      have hΦ3 : Φ (S.cf kk x.mem.name x.og y.og::((if S.all then kQ S l is (λa b=>S.cf kk a.mem.name a.og b.og) (x,i) (k+1)++(l.zipIdx.drop (i+1)).flatMap (λa=>kQ S l is (λa b=>S.cf kk a.mem.name a.og b.og) a 0) else [])++R)) r:=by
       rw [if_neg (λh=>h.elim hik λh=>h.elim (λh=>by rw [hall] at h; cases h.1) hn)] at hΦ
       rw [lC,lN,List.cons_append,vX] at hΦ
       exact hΦ
      refine cK<|xT<|cS<|cQ<|sM Z<|sV (af Z fC Z ah) ?_
      refine sM Z<|sV (vF Z dS Z)<|sV (vF Z eB Z)<|sV (vY Z ld9) ?_
      refine sV (vF Z jo Z)<|sV (af Z qm Z<|nu (x:=x)) ?_
      refine sV (vF Z jo Z)<|sV (af Z qm Z<|nu (x:=y)) ?_
      refine aY Z Z jS Z (hcn kk x.mem.name x.og y.og) ?_
      refine kg (gd:=0) (.inl Z) Z Z (hy _ _ _ hΦ3) ?_
      rintro u h' (⟨rfl,r',hΦ4,rfl⟩ | ⟨rfl,r',hst,rfl⟩)
      ·simp only [lC,lN]
       refine sV (bg Z)<|sK [1,2,3,4,5,11,12,15,16,17,22,23,24,61] Z<|aG Z ?_
       refine cK<|xT<|cQ<|sV (vF Z oW Z)<|sV (vY Z ld4) ?_
       refine sV (bg Z)<|sK [1,2,3,4,5,11,12,15,16,17,22,23,24,64] Z<|aG Z ?_
       refine cK<|xB<|xT<|cR<|sV (aI Z Z Za)<|sM Z<|sN<|nK [1,2,3,4,5,11,12,15,16,17,22,23,24] Z<|ax ?_
       rw [hall] at hΦ4
       refine aJ (r',k+1) ⟨hltk,by unfold Sk.cut; rw [hall]; exact hΦ4⟩ (by dsimp only; omega)
      ·simp only [lC,lN]
       refine sV (bg Z)<|sK [1,2,3,4,5,11,12,15,16,17,22,23,24,61] Z<|aQ Z ?_
       refine cQ<|sA Z<|sK [10] Z<|cT<|xR<|xW<|xR<|xR<|xW<|xW<|xR<|xR<|xW ?_
       refine xR ?_
       exact aj Z ⟨r',Z,.inr ⟨Z,_,hst⟩⟩ sbq
  ·have hie:k=l.length:=by
    have:¬ k<l.length:=Zw
    omega
   subst hie
   rw [Bq,List.nil_append] at hΦ
   refine aB<|xE<|xE<|xY<|xB<|xT<|cR<|sV (aI Z Z Za)<|sM Z<|sN<|nK [1,2,3,4,5,15,16,17] Z<|ax ?_
   refine aJ (r,i+1) ⟨hlt,hΦ⟩ (by dsimp only; omega)
 ·have hie:i=l.length:=by
   have:¬ i<l.length:=Zx
   omega
  subst hie
  rw [mP] at hΦ
  have hΦ : Φ R r:=by
   have:S.cut []=[]:=by unfold Sk.cut; split <;> rfl
   rw [this] at hΦ; exact hΦ
  refine aB<|xE<|xE<|xY<|xT<|cQ<|sA Z<|sK [10] Z<|cT ?_
  exact aj Z ⟨r,Z,.inl ⟨Z,hΦ⟩⟩ sbq
end
end Go.Fl
namespace Go.Fl
open Go Go.RowKit Go.Ck Go.Proofs Go.Proofs.Tryz Go.Proofs.YtknmacdbffgjgaaGreatDoor Fx Go.Hr
structure SkR (X:Res) (S:Sk) (v:Value) (m:List (Nm×Value)) (ca cb ce cf ci mv:Value) (bmp:List (Nm×Value)):Prop where
 l:Ls X v S.l
 a:Ls X ca S.c.forms
 par:Ls X cb S.c.pars
 e:ce.oneCell'=true
 feat:Ls X cf S.c.feats
 inv:Ls X ci S.c.inv
 fl:FlR X m S.fl
 ms:Ls X mv S.ms
 by':∀ n,Ls X ((bK bmp n).getD<|.slice none 0 0) (under S.cs n)
theorem SkR.up {X Y:Res} {S:Sk} {v:Value} {m bmp:List (Nm×Value)} {ca cb ce cf ci mv:Value} (h:SkR X S v m ca cb ce cf ci mv bmp) (he:Ext X Y):SkR Y S v m ca cb ce cf ci mv bmp :=
 ⟨h.l.up he,h.a.up he,h.par.up he,h.e,h.feat.up he,h.inv.up he,h.fl.up he,h.ms.up he,λn=>(h.by' n).up he⟩
theorem SkR.c {X:Res} {S:Sk} {v:Value} {m bmp:List (Nm×Value)} {ca cb ce cf ci mv:Value} (h:SkR X S v m ca cb ce cf ci mv bmp):Enc.rep X [sv S.c.name,.bool S.c.dfd,ca,cb,ce,cf,ci] S.c:=⟨ca,cb,ce,cf,ci,rfl,h.a,h.par,h.e,h.feat,h.inv⟩
theorem ls_cat {Y:Res} {b:Nat} {x y z:Value} {p q s:List Nm} (h1:Ls Y x p) (h2:Ls Y y q) (h3:Ls Y z s):Ls (Res.star [pt b (cl [x,y,z] 40),Y]) (.slice (some ⟨b,0,none⟩) 3 3) [p,q,s]:=
 ⟨⟨some ⟨b,0,none⟩,3,rfl,Nat.le_refl _,by decide,(λh=>by cases h),λi w hi=>by
  match i,hi with
  | 0,hi=>cases hi; exact ⟨b,0,[x],rfl,rfl,λi hi=>by match i,hi with | 0,_=>exact bE .here _ _ (bV rfl),x,rfl,h1.up' (bE (.there .here))⟩
  | 1,hi=>cases hi; exact ⟨b,0,[y],rfl,rfl,λi hi=>by match i,hi with | 0,_=>exact bE .here _ _ (bV rfl),y,rfl,h2.up' (bE (.there .here))⟩
  | 2,hi=>cases hi; exact ⟨b,0,[z],rfl,rfl,λi hi=>by match i,hi with | 0,_=>exact bE .here _ _ (bV rfl),z,rfl,h3.up' (bE (.there .here))⟩⟩,(by show 3 * 24≤reachBytes; decide)⟩
theorem reads_nil {P:Program} {k:FuncId} {args:Array Value} {X:Res} {v:Value} (h:Reads P k args [] v):Reads P k args [X] v:=λhr w hh =>
 (h (X::hr) w hh).mono λ_ _ ⟨u,h',he,⟨hu,hh'⟩,hH,hS⟩=>⟨u,[X],he,⟨hu,rfl⟩,by subst hh'; exact hH,hS⟩
structure SkB (S:Sk):Prop where
 fits:Fits S.l S.fl
 cls:S.c∈S.l
 ms:(S.ms.flatMap λm=>m.seeds).length≤432000
 mf:S.ms.length≤300
theorem SkB.under {S:Sk} (h:SkB S) (n:Nm):(under S.cs n).length≤240:=Nat.le_trans (List.length_filter_le _ _) (h.fits.few<|.inl h.cls)
theorem SkB.fro {S:Sk} (h:SkB S) (i:Nat) (n:Nm):(S.fro i n).length≤240:=Nat.le_trans (List.length_filter_le _ _) (h.under n)
theorem SkB.lists {S:Sk} (h:SkB S) {p:Pt} (hp:p∈S.c.pars):p.ren.length≤12/\p.und.length≤12/\p.red.length≤12/\p.sel.length≤12:=h.fits.lists _ h.cls p hp
namespace Sk
section
variable (s:Sk)
def f1a (p:Pt×Nat) (r:Pn):List Cf:=if (dA (s.fl p.1.name).mems r.fro).isNone then [s.cf 1 r.fro ⟨p.1.name,r.fro⟩ og0] else []
def f1b (p:Pt×Nat) (n:Nm):List Cf:=if s.fro p.2 n=[] then [s.cf 1 n ⟨p.1.name,n⟩ og0] else []
def f1 (p:Pt×Nat):List Cf:=p.1.ren.flatMap (s.f1a p)++[p.1.und,p.1.red,p.1.sel].flatten.flatMap (s.f1b p)
def f2a (p:Pt) (n:Nm):List Cf:=if p.red.contains n then [s.cf 2 n ⟨p.name,n⟩ og0] else []
def f2 (p:Pt):List Cf:=p.und.flatMap (s.f2a p)
def f3a (p:Pt×Nat) (m:Mb):List Cf:=if 1<(s.fro p.2<|bN p.1 m.name).length then s.cpairs (s.fro p.2<|bN p.1 m.name) 3 (λ_ _=>true) else []
def f3 (p:Pt×Nat):List Cf:=(s.fl p.1.name).mems.flatMap (s.f3a p)
def f4b (n:Nm) (x:Cm):List Cf:=if x.was≠2 then [s.cf 4 n x.og og0] else []
def f4a (p:Pt×Nat) (n:Nm):List Cf:=(s.fro p.2 n).flatMap (s.f4b n)
def f4 (p:Pt×Nat):List Cf:=p.1.und.flatMap (s.f4a p)
def f5a (p:Pt) (n:Nm):List Cf:=if (feat s.c n).isNone then [s.cf 5 n ⟨p.name,n⟩ og0] else []
def f5 (p:Pt):List Cf:=p.red.flatMap (s.f5a p)
theorem lost_eq (R:List Cf):s.lost++R=s.c.pars.zipIdx.flatMap s.f1++(s.c.pars.flatMap s.f2++(s.c.pars.zipIdx.flatMap s.f3++(s.c.pars.zipIdx.flatMap s.f4++(s.c.pars.flatMap s.f5++R)))):=by
 have h1:∀ p,s.f1 p=(p.1.ren.flatMap λr=>if (dA (s.fl p.1.name).mems r.fro).isNone then [s.cf 1 r.fro ⟨p.1.name,r.fro⟩ og0] else []) ++
   (p.1.und++p.1.red++p.1.sel).flatMap λn=>if s.fro p.2 n=[] then [s.cf 1 n ⟨p.1.name,n⟩ og0] else []:=λp=>by
  unfold f1
  congr 1
  simp only [List.flatten_cons,List.flatten_nil,List.append_nil,List.append_assoc]
  rfl
 have h2:s.c.pars.zipIdx.flatMap s.f1=s.pz.flatMap λp=>(p.1.ren.flatMap λr=>if (dA (s.fl p.1.name).mems r.fro).isNone then [s.cf 1 r.fro ⟨p.1.name,r.fro⟩ og0] else []) ++
   (p.1.und++p.1.red++p.1.sel).flatMap λn=>if s.fro p.2 n=[] then [s.cf 1 n ⟨p.1.name,n⟩ og0] else []:=dH λp _=>h1 p
 rw [h2]
 unfold lost
 simp only [List.append_assoc]
 rfl
end
end Sk
attribute [local irreducible] Go.Ck.Sub St Cd Xt Nx DrL LsW
section
variable {X Y:Res} {v v':Value} {us us':List Value}

theorem lost_ct {yl mb bm : Nat} {Φ : List Cf -> Res -> Prop} {Stop : Cf -> Res -> Prop} (hy : Yh yl Φ Stop) {S : Sk} {all : Bool} (hall : S.all = all) {m bmp : List (Nm × Value)} {ca cb ce cf ci mv : Value} (hK : SkR X S v m ca cb ce cf ci mv bmp) (hB : SkB S) (R : List Cf) (r0 : Res) (h0 : Φ (S.lost ++ R) r0) :
  CtX prog 128 #[.agg (eX v (.map<|some mb) S.c ca cb ce cf ci mv (.map<|some bm) all).toArray,.func (.yield yl) #[] #[]] X [mps mb m,mps bm bmp,r0] λu Y k'=>∃ r,k'=[mps mb m,mps bm bmp,r]/\Yend Φ Stop R u r:=by
 have hml:maxLen=9223372036854775807:=rfl
 obtain ⟨cb,ck,rfl,hckl,hckm,_⟩:=id hK.par.form
 obtain ⟨cf,cfk,rfl,_⟩:=id hK.feat.form
 obtain ⟨mA,mK,rfl,_⟩:=id hK.ms.form
 have hcn:=λb=>fQ (fv:=.map<|some mb) (c:=S.c) (v:=v) (ca:=ca) (cb:=.slice cb S.c.pars.length ck) (ce:=ce) (cf:=.slice cf S.c.feats.length cfk) (ci:=ci) (mv:=.slice mA S.ms.length mK) (bv:=.map<|some bm) (all:=all) b
 rw [Sk.lost_eq] at h0
 generalize hT5:S.c.pars.flatMap S.f5++R=T4 at h0
 generalize hT4:S.c.pars.zipIdx.flatMap S.f4++T4=T3 at h0
 generalize hT3:S.c.pars.zipIdx.flatMap S.f3++T3=T2 at h0
 generalize hT2:S.c.pars.flatMap S.f2++T2=T1 at h0
 unfold CtX
 unfold eX at *
 refine aL (n:=271) func128 Z Z (len Z) λhr w0=>?_
 refine cQ (aP Z Z λb2=>?_)
 refine sA Z<|sK [1,2,4] Z<|cS<|cQ<|sV (vF Z gM Z)<|sV (vF Z eY Z)<|sV (vY Z lZ) ?_
 refine sV (aF Z underlying39)<|sM Z<|sK [1,2,4,36,37,38] Z<|cB<|aX (σ := Res×Res×Nat) (λq=>[(1,.func (.yield yl) #[] #[]),(2,.pointer (some ⟨b2,0,none⟩)),(36,.slice cb S.c.pars.length ck),(37,.int .i64 S.c.pars.length),(38,.int .i64 (q.2.2:Nat))]) (λq=>pt b2 (cl [v,.map (some mb),sv S.c.name,.bool S.c.dfd,ca,.slice cb S.c.pars.length ck,ce,.slice cf S.c.feats.length cfk,ci,.slice mA S.ms.length mK,.map (some bm),.bool all] 206)::q.1::mps mb m::mps bm bmp::q.2.1::hr) (λq=>Ext X q.1/\q.2.2≤S.c.pars.length /\ Φ ((S.c.pars.zipIdx.drop q.2.2).flatMap (S.f1)++T1) q.2.1) (λq=>S.c.pars.length - q.2.2) (X,r0,0) ⟨Ext.refl X,Nat.zero_le _,h0⟩ ?_
 clear h0
 rintro ⟨Y,r,i⟩ ⟨hE,hi,hΦ⟩
 simp only at hE hi hΦ
 dsimp only
 refine cQ<|sV (aN Z Z)<|sN<|nT<|cS<|cC Z (λhd=>?_)<|λhd=>?_
 ·have hlt:i<S.c.pars.length:=Zx
  rw [ko hlt,List.append_assoc] at hΦ
  have hlis:=hB.lists<|List.getElem_mem hlt
  obtain ⟨pb,po,pcap,pus,e1,hpus,hprd,hp⟩:=(hK.par.up hE).at<|Zy hlt
  obtain ⟨rfl,rfl⟩:cb=some ⟨pb,po,none⟩/\ck=pcap:=by cases e1; exact ⟨rfl,rfl⟩
  generalize S.c.pars[i]=p at hΦ hlis hp
  generalize hA:(S.c.pars.zipIdx.drop (i+1)).flatMap (S.f1)++T1=A at hΦ
  obtain ⟨hlR,hlU,hlD,hlS⟩:=hlis
  have hp0:=hp
  obtain ⟨pa,pr,pu,pd,pS,rfl,hpa,hpR,hpu,hpd,hpsel⟩:=hp
  obtain ⟨aA,kA,rfl,_⟩:=id hpa.form
  obtain ⟨aR,kR,rfl,_⟩:=id hpR.form
  obtain ⟨aU,kU,rfl,_⟩:=id hpu.form
  obtain ⟨aD,kD,rfl,_⟩:=id hpd.form
  obtain ⟨aS,kS,rfl,_⟩:=id hpsel.form
  refine cK<|xT<|cS<|cB<|cQ<|sM Z<|sV (vI (k:=i) Z Z oL Z hlt Z)<|sV (af Z qp Z hprd) ?_
  refine au vD λb6=>?_
  refine sA Z<|ai Z Z r9 Z Z ?_
  have hΦ : Φ (p.ren.flatMap (S.f1a (p,i))++([p.und,p.red,p.sel].flatten.flatMap (S.f1b (p,i))++A)) r:=by rw [<- List.append_assoc]; exact hΦ
  generalize hA2:[p.und,p.red,p.sel].flatten.flatMap (S.f1b (p,i))++A=A2 at hΦ
  refine sK [1,2,5,6,36,37,38] Z<|cS<|cQ<|sV (vF Z Ai Z)<|sV (vY Z ld86) ?_
  refine sV (aF Z underlying86)<|sM Z<|sK [1,2,5,6,36,37,38,44,45,46] Z<|cB<|aX (σ := Res×Res×Nat) (λq=>[(1,.func (.yield yl) #[] #[]),(2,.pointer (some ⟨b2,0,none⟩)),(36,.slice (some ⟨pb,po,none⟩) S.c.pars.length ck),(37,.int .i64 S.c.pars.length),(38,.int .i64 (i:Nat)),(5,.int .i64 (i:Nat)),(6,.pointer (some ⟨b6,0,none⟩)),(44,.slice aR p.ren.length kR),(45,.int .i64 p.ren.length),(46,.int .i64 (q.2.2:Nat))]) (λq=>pt b6 (cl [sv p.name,.slice aA p.args.length kA,.slice aR p.ren.length kR,.slice aU p.und.length kU,.slice aD p.red.length kD,.slice aS p.sel.length kS] 88)::pt b2 (cl [v,.map (some mb),sv S.c.name,.bool S.c.dfd,ca,.slice (some ⟨pb,po,none⟩) S.c.pars.length ck,ce,.slice cf S.c.feats.length cfk,ci,.slice mA S.ms.length mK,.map (some bm),.bool all] 206)::q.1::mps mb m::mps bm bmp::q.2.1::hr) (λq=>Ext Y q.1/\q.2.2≤p.ren.length /\ Φ ((p.ren.drop q.2.2).flatMap (S.f1a (p,i))++A2) q.2.1) (λq=>p.ren.length - q.2.2) (Y,r,0) ⟨Ext.refl Y,Nat.zero_le _,hΦ⟩ ?_
  clear hΦ
  rintro ⟨Zq,r,j⟩ ⟨hE2,hj,hΦ⟩
  simp only at hE2 hj hΦ
  dsimp only
  refine cQ<|sV (aN Z Z)<|sN<|nT<|cS<|cC Z (λhd2=>?_)<|λhd2=>?_
  ·have hltj:j<p.ren.length:=Zw
   rw [ed hltj,List.append_assoc] at hΦ
   have hEZ:=hE.trans hE2
   obtain ⟨nb,no,ncap,nus,e2,hnus,hnrd,hn⟩:=(hpR.up hE2).at<|Zy hltj
   obtain ⟨rfl,rfl⟩:aR=some ⟨nb,no,none⟩/\kR=ncap:=by cases e2; exact ⟨rfl,rfl⟩
   generalize p.ren[j]=x at hΦ hn
   subst hn
   refine cK<|xT<|cS<|cB<|cQ<|sV (vI (k:=j) Z Z sl86 Z hltj Z)<|sV (af Z qL Z hnrd) ?_
   refine au Fj λb8=>?_
   refine ai Z Z Ac Z Z ?_
   refine sK [1,2,5,6,8,36,37,38,44,45,46] Z<|cQ<|sV (vF Z D8 Z)<|sV (vF Z iJ Z)<|sV (vY Z p9) ?_
   refine sV (vF Z gH Z)<|sV (vY Z ld9) ?_
   obtain ⟨fus,hfl,hfr2⟩:=(hK.fl.up hEZ) p.name
   obtain ⟨mx,my,rfl,hmx,hmy⟩:=hfr2
   obtain ⟨qA,qK,rfl,_⟩:=id hmx.form
   refine sV (gq hfl<|bI Z Z pY p8 slq) ?_
   refine sV (iI (k:=2) Z underlying55 Z isAgg52 Z)<|sV (vF Z zk Z)<|sV (vY Z ld9) ?_
   refine aH Z Z en169 Z (ui (n:=x.fro) hmx) ?_
   rintro u h' ⟨rfl,gus,rfl,hgr⟩
   simp only [lC,lN]
   have hg14:gus.length=14:=Enc.len hgr
   have hgo:=Enc.ones hgr
   refine sM Z<|sV (ag Z Z)<|sV (ag Z Z) (au ji λb9=>?_)
   refine ai (hl:=by rw [hg14]; rfl) Z Z gP hg14 hgo ?_
   refine sA Z<|sK [1,2,5,6,8,10,36,37,38,44,45,46] Z<|cQ<|sM Z<|sV (bg Z)<|sM Z ?_
   have hmf:((S.fl p.name).mems.find? λc=>c.name == x.fro)=dA (S.fl p.name).mems x.fro:=rfl
   rw [hmf]
   unfold Sk.f1a at hΦ
   dsimp only at hΦ
   cases hq:dA (S.fl p.name).mems x.fro
   ·rw [hq] at hΦ
    have hΦ2 : Φ (S.cf 1 x.fro ⟨p.name,x.fro⟩ og0::((p.ren.drop (j+1)).flatMap (S.f1a (p,i))++A2)) r:=hΦ
    refine sG Z Z (vM Z)<|sG Z Z (af Z fC Z ah) ?_
    refine sG Z Z (vF Z zk Z)<|sG Z Z (vY Z ld9) ?_
    refine sG Z Z (vF Z gH Z)<|sG Z Z (vY Z ld9) ?_
    refine sG Z Z (vF Z zk Z)<|sG Z Z (vY Z ld9) ?_
    refine sG Z Z (aO (cells:=[sv p.name,sv x.fro]) Z<|λ_=>Zz) ?_
    refine sG Z Z (aO (cells:=[sv [],sv []]) Z<|λ_=>Zz) ?_
    refine bU Z Z Z Z jS Z (hcn 1 x.fro ⟨p.name,x.fro⟩ og0) ?_
    refine kg (gd:=65) (.inr ⟨_,_,Z,Z,Z⟩) Z Z (hy _ _ _ hΦ2) ?_
    rintro u h' (⟨rfl,r',hΦ4,rfl⟩ | ⟨rfl,r',hst,rfl⟩)
    ·simp only [lC,lN]
     refine sG Z Z (bg Z)<|sV (vQ Z Z)<|sK [1,2,5,6,36,37,38,44,45,46,79] Z<|aG Z ?_
     refine cK<|xB<|xT<|cR<|sV (aI Z Z Za)<|sM Z<|sN<|nK [1,2,5,6,36,37,38,44,45,46] Z<|ax ?_
     refine aJ (Zq,r',j+1) ⟨hE2,hltj,hΦ4⟩ (by dsimp only; omega)
    ·simp only [lC,lN]
     refine sG Z Z (bg Z)<|sV (vQ Z Z)<|sK [1,2,5,6,36,37,38,44,45,46,79] Z<|aQ Z ?_
     refine cQ<|sA Z<|sK [4] Z<|cT<|xW<|xR<|xR<|xW<|xR<|xW<|xR<|xR<|xW ?_
     refine xR ?_
     exact aj Z ⟨Zq,[mps mb m,mps bm bmp,r'],Z,hEZ,r',Z,.inr ⟨Z,_,hst⟩⟩ sbq
   ·rw [hq] at hΦ
    iterate 13 refine aC rfl rfl rfl ?_
    refine sV (vP Z Z)<|sK [1,2,5,6,36,37,38,44,45,46,79] Z<|aG Z ?_
    refine cK<|xB<|xT<|cR<|sV (aI Z Z Za)<|sM Z<|sN<|nK [1,2,5,6,36,37,38,44,45,46] Z<|ax ?_
    refine aJ (Zq,r,j+1) ⟨hE2,hltj,hΦ⟩ (by dsimp only; omega)
  ·have hje:j=p.ren.length:=Nat.le_antisymm hj<|Nat.not_lt.1 Zw
   subst hje
   rw [dL,List.nil_append] at hΦ
   generalize hns:[p.und,p.red,p.sel].flatten=ns at hA2
   have hnl:ns.length≤36:=by
    rw [<- hns]
    simp only [List.flatten_cons,List.flatten_nil,List.append_nil,List.length_append]
    omega
   have hcat:∀ b87,CtN prog 205 #[.slice (some ⟨b87,0,none⟩) 3 3] [pt b87 (cl [.slice aU p.und.length kU,.slice aD p.red.length kD,.slice aS p.sel.length kS] 40),Zq] λu T=>u.oneCell'=true/\T=NR u ns:=λb87=>by
    have h:=EE (ls_cat (b:=b87) (hpu.up hE2) (hpd.up hE2)<|hpsel.up hE2) (by rw [hns]; omega)
    rw [hns] at h
    exact jT h
   refine aB<|xE<|xE<|xY<|xT<|cQ<|sV (vF Z xn Z)<|sV (vY Z fI) ?_
   refine sV (vF Z xq Z)<|sV (vY Z fI) ?_
   refine sV (vF Z Aj Z)<|sV (vY Z fI) ?_
   refine ak (cells:=[.slice aU p.und.length kU,.slice aD p.red.length kD,.slice aS p.sel.length kS]) Z underlying325 inf40 Z Z Zz (ltn Z) λb87=>?_
   refine aH Z Z en205 Z (hcat b87) ?_
   rintro u h' ⟨T,rfl,hu,rfl⟩
   simp only [lC,lN]
   unfold NR
   refine jr (v:=u) (E:=9) (sz:=1) (rows:=ns.map nC) slq λwa wc hwf hwl hwm=>?_
   rw [List.length_map] at hwf hwl
   subst hwf
   refine sV (aF Z underlying40)<|sM Z<|sK [1,2,5,6,36,37,38,88,89,90] Z<|cB ?_
   rw [<- hA2] at hΦ
   refine aX (σ := Res×Res×Nat) (λq=>[(1,.func (.yield yl) #[] #[]),(2,.pointer (some ⟨b2,0,none⟩)),(36,.slice (some ⟨pb,po,none⟩) S.c.pars.length ck),(37,.int .i64 S.c.pars.length),(38,.int .i64 (i:Nat)),(5,.int .i64 (i:Nat)),(6,.pointer (some ⟨b6,0,none⟩)),(88,.slice wa ns.length wc),(89,.int .i64 ns.length),(90,.int .i64 (q.2.2:Nat))]) (λq=>VR (.slice wa ns.length wc) 9 1 (ns.map nC)::pt b6 (cl [sv p.name,.slice aA p.args.length kA,.slice aR p.ren.length kR,.slice aU p.und.length kU,.slice aD p.red.length kD,.slice aS p.sel.length kS] 88)::pt b2 (cl [v,.map (some mb),sv S.c.name,.bool S.c.dfd,ca,.slice (some ⟨pb,po,none⟩) S.c.pars.length ck,ce,.slice cf S.c.feats.length cfk,ci,.slice mA S.ms.length mK,.map (some bm),.bool all] 206)::q.1::mps mb m::mps bm bmp::q.2.1::hr) (λq=>Ext Zq q.1/\q.2.2≤ns.length /\ Φ ((ns.drop q.2.2).flatMap (S.f1b (p,i))++A) q.2.1) (λq=>ns.length - q.2.2) (Zq,r,0) ⟨Ext.refl Zq,Nat.zero_le _,hΦ⟩ ?_
   clear hΦ
   rintro ⟨Y2,r,k⟩ ⟨hE3,hk,hΦ⟩
   simp only at hE3 hk hΦ
   dsimp only
   refine cQ<|sV (aN Z Z)<|sN<|nT<|cS<|cC Z (λhd3=>?_)<|λhd3=>?_
   ·have hltk:k<ns.length:=Zr
    rw [ed hltk,List.append_assoc] at hΦ
    have hnx:(ns.map nC)[k]? = some [sv ns[k]]:=by rw [List.getElem?_map,Zy hltk]; rfl
    refine fJ (r:=VR (.slice wa ns.length wc) 9 1<|ns.map nC) slq λhok=>?_
    obtain ⟨ab,ao,rfl⟩:∃ ab ao,wa=some ⟨ab,ao,none⟩:=by
     obtain ⟨f0,hf0⟩:=hok
     rcases VR.form hf0 with ⟨h3,h4⟩ | ⟨b,o,cp,h3,-⟩
     ·have:=List.map_eq_nil_iff.1 h4
      subst this; simp at hltk
     ·rw [List.length_map] at h3; cases h3; exact ⟨b,o,rfl⟩
    generalize ns[k]=n at hΦ hnx
    refine cK<|xT<|cS<|cB<|cQ<|sV (vI (k:=k) Z Z jm Z hltk Z)<|sV (vY Z ld9 (ha:=⟨_,_,slq,eQ hnx 0<|by simp⟩)) ?_
    refine sA Z<|sK [1,2,5,6,12,36,37,38,88,89,90] Z<|cQ ?_
    have hK9:=hK.up<|hE.trans<|hE2.trans hE3
    refine sV (af Z fC Z ah) ?_
    refine sM Z<|sM Z<|aH Z Z J6 Z (pV (v:=v) (fv:=.map<|some mb) (c:=S.c) (ca:=ca) (cb:=.slice (some ⟨pb,po,none⟩) S.c.pars.length ck) (ce:=ce) (cf:=.slice cf S.c.feats.length cfk) (ci:=ci) (mv:=.slice mA S.ms.length mK) (all:=all) (bm:=bm) (i:=i) (n:=n) (hK9.by' n) (by have:=hB.under n; omega)) ?_
    rintro u h' ⟨Y3,k9,rfl,hE4,rows,hu,hro,rfl⟩
    simp only [lC,lN]
    have hro:Rws Y3 rows (S.fro i<|n):=hro
    have hrl:=hro.1
    have hfl:=hB.fro i<|n
    refine jr (v:=u) (E:=191) (sz:=18) (rows:=rows) slq λla lc hlf hll hlm=>?_
    rw [hrl] at hlf hll
    subst hlf
    refine sV (aF Z underlying187)<|sV (dP Z Z)<|sM Z ?_
    unfold Sk.f1b at hΦ
    dsimp only at hΦ
    by_cases hq:S.fro i n=[]
    ·rw [if_pos hq] at hΦ
     have hΦ2 : Φ (S.cf 1 n ⟨p.name,n⟩ og0::((ns.drop (k+1)).flatMap (S.f1b (p,i))++A)) r:=hΦ
     have hg:(((S.fro i n).length:Int) == 0)=true:=by rw [hq]; rfl
     rw [hg]
     refine sG Z Z (vM Z)<|sG Z Z (af Z fC Z ah) ?_
     refine sG Z Z (vM Z)<|sG Z Z (vF Z gH Z)<|sG Z Z (vY Z ld9) ?_
     refine sG Z Z (vM Z)<|sG Z Z (aO (cells:=[sv p.name,sv n]) Z<|λ_=>Zz) ?_
     refine sG Z Z (aO (cells:=[sv [],sv []]) Z<|λ_=>Zz) ?_
     refine bU Z Z Z Z jS Z (hcn 1 n ⟨p.name,n⟩ og0) ?_
     refine kg (gd:=100) (.inr ⟨_,_,Z,Z,Z⟩) Z Z (hy _ _ _ hΦ2) ?_
     rintro u h' (⟨rfl,r',hΦ4,rfl⟩ | ⟨rfl,r',hst,rfl⟩)
     ·simp only [lC,lN]
      refine sG Z Z (bg Z)<|sV (vQ Z Z)<|sK [1,2,5,6,36,37,38,88,89,90,112] Z<|aG Z ?_
      refine cK<|xB<|xT<|cR<|sV (aI Z Z Za)<|sM Z<|sN<|nK [1,2,5,6,36,37,38,88,89,90] Z<|ax ?_
      refine aJ (Y3,r',k+1) ⟨hE3.trans hE4,hltk,hΦ4⟩ (by dsimp only; omega)
     ·simp only [lC,lN]
      refine sG Z Z (bg Z)<|sV (vQ Z Z)<|sK [1,2,5,6,36,37,38,88,89,90,112] Z<|aQ Z ?_
      refine cQ<|sA Z<|sK [4] Z<|cT<|xW<|xR<|xR<|xW<|xW<|xR<|xR<|xW<|xR ?_
      exact aj Z ⟨Y3,[mps mb m,mps bm bmp,r'],Z,hE.trans (hE2.trans<|hE3.trans hE4),r',Z,.inr ⟨Z,_,hst⟩⟩ sbq
    ·rw [if_neg hq] at hΦ
     have hg:(((S.fro i n).length:Int) == 0)=false:=by
      have:=List.length_pos_iff.2 hq
      simp only [beq_eq_false_iff_ne,ne_eq]; omega
     rw [hg]
     iterate 11 refine aC rfl rfl rfl ?_
     refine sV (vP Z Z)<|sK [1,2,5,6,36,37,38,88,89,90,112] Z<|aG Z ?_
     refine cK<|xB<|xT<|cR<|sV (aI Z Z Za)<|sM Z<|sN<|nK [1,2,5,6,36,37,38,88,89,90] Z<|ax ?_
     refine aJ (Y3,r,k+1) ⟨hE3.trans hE4,hltk,hΦ⟩ (by dsimp only; omega)
   ·have hke:k=ns.length:=Nat.le_antisymm hk<|Nat.not_lt.1 Zr
    subst hke
    rw [dL,List.nil_append] at hΦ
    refine aB<|xE<|xE<|xY<|xB<|xT<|cR<|sV (aI Z Z Za)<|sM Z<|sN<|nK [1,2,36,37,38] Z<|ax ?_
    refine aJ (Y2,r,i+1) ⟨hE.trans (hE2.trans hE3),hlt,by rw [hA]; exact hΦ⟩ (by dsimp only; omega)
 ·have hie:i=S.c.pars.length:=Nat.le_antisymm hi<|Nat.not_lt.1 Zx
  subst hie
  rw [mP,List.nil_append] at hΦ
  rw [<- hT2] at hΦ
  refine aB<|xE<|xE<|xY<|xT<|cS<|cQ<|sV (vF Z gM Z)<|sV (vF Z eY Z)<|sV (vY Z lZ) ?_
  refine sV (aF Z underlying39)<|sM Z<|sK [1,2,117,118,119] Z<|cB<|aX (σ := Res×Res×Nat) (λq=>[(1,.func (.yield yl) #[] #[]),(2,.pointer (some ⟨b2,0,none⟩)),(117,.slice cb S.c.pars.length ck),(118,.int .i64 S.c.pars.length),(119,.int .i64 (q.2.2:Nat))]) (λq=>pt b2 (cl [v,.map (some mb),sv S.c.name,.bool S.c.dfd,ca,.slice cb S.c.pars.length ck,ce,.slice cf S.c.feats.length cfk,ci,.slice mA S.ms.length mK,.map (some bm),.bool all] 206)::q.1::mps mb m::mps bm bmp::q.2.1::hr) (λq=>Ext X q.1/\q.2.2≤S.c.pars.length /\ Φ ((S.c.pars.drop q.2.2).flatMap (S.f2)++T2) q.2.1) (λq=>S.c.pars.length - q.2.2) (Y,r,0) ⟨hE,Nat.zero_le _,hΦ⟩ ?_
  clear hΦ hE
  clear Y r
  rintro ⟨Y,r,i⟩ ⟨hE,hi,hΦ⟩
  simp only at hE hi hΦ
  dsimp only
  refine cQ<|sV (aN Z Z)<|sN<|nT<|cS<|cC Z (λhd=>?_)<|λhd=>?_
  ·have hlt:i<S.c.pars.length:=Zx
   rw [ed hlt,List.append_assoc] at hΦ
   have hlis:=hB.lists<|List.getElem_mem hlt
   obtain ⟨pb,po,pcap,pus,e1,hpus,hprd,hp⟩:=(hK.par.up hE).at<|Zy hlt
   obtain ⟨rfl,rfl⟩:cb=some ⟨pb,po,none⟩/\ck=pcap:=by cases e1; exact ⟨rfl,rfl⟩
   generalize S.c.pars[i]=p at hΦ hlis hp
   generalize hA:(S.c.pars.drop (i+1)).flatMap (S.f2)++T2=A at hΦ
   obtain ⟨hlR,hlU,hlD,hlS⟩:=hlis
   have hp0:=hp
   obtain ⟨pa,pr,pu,pd,pS,rfl,hpa,hpR,hpu,hpd,hpsel⟩:=hp
   obtain ⟨aA,kA,rfl,_⟩:=id hpa.form
   obtain ⟨aR,kR,rfl,_⟩:=id hpR.form
   obtain ⟨aU,kU,rfl,_⟩:=id hpu.form
   obtain ⟨aD,kD,rfl,_⟩:=id hpd.form
   obtain ⟨aS,kS,rfl,_⟩:=id hpsel.form
   refine cK<|xT<|cS<|cB<|cQ<|sV (vI (k:=i) Z Z oL Z hlt Z)<|sV (af Z qp Z hprd) ?_
   refine au vD λb14=>?_
   refine ai Z Z r9 Z Z ?_
   have hΦ : Φ (p.und.flatMap (S.f2a p)++A) r:=hΦ
   refine sK [1,2,14,117,118,119] Z<|cQ<|sV (vF Z xn Z)<|sV (vY Z fI) ?_
   refine sV (aF Z underlying40)<|sM Z<|sK [1,2,14,117,118,119,124,125,126] Z<|cB<|aX (σ := Res×Res×Nat) (λq=>[(1,.func (.yield yl) #[] #[]),(2,.pointer (some ⟨b2,0,none⟩)),(117,.slice (some ⟨pb,po,none⟩) S.c.pars.length ck),(118,.int .i64 S.c.pars.length),(119,.int .i64 (i:Nat)),(14,.pointer (some ⟨b14,0,none⟩)),(124,.slice aU p.und.length kU),(125,.int .i64 p.und.length),(126,.int .i64 (q.2.2:Nat))]) (λq=>pt b14 (cl [sv p.name,.slice aA p.args.length kA,.slice aR p.ren.length kR,.slice aU p.und.length kU,.slice aD p.red.length kD,.slice aS p.sel.length kS] 88)::pt b2 (cl [v,.map (some mb),sv S.c.name,.bool S.c.dfd,ca,.slice (some ⟨pb,po,none⟩) S.c.pars.length ck,ce,.slice cf S.c.feats.length cfk,ci,.slice mA S.ms.length mK,.map (some bm),.bool all] 206)::q.1::mps mb m::mps bm bmp::q.2.1::hr) (λq=>Ext Y q.1/\q.2.2≤p.und.length /\ Φ ((p.und.drop q.2.2).flatMap (S.f2a p)++A) q.2.1) (λq=>p.und.length - q.2.2) (Y,r,0) ⟨Ext.refl Y,Nat.zero_le _,hΦ⟩ ?_
   clear hΦ
   rintro ⟨Zq,r,j⟩ ⟨hE2,hj,hΦ⟩
   simp only at hE2 hj hΦ
   dsimp only
   refine cQ<|sV (aN Z Z)<|sN<|nT<|cS<|cC Z (λhd2=>?_)<|λhd2=>?_
   ·have hltj:j<p.und.length:=Zw
    rw [ed hltj,List.append_assoc] at hΦ
    have hEZ:=hE.trans hE2
    obtain ⟨nb,no,ncap,nus,e2,hnus,hnrd,hn⟩:=(hpu.up hE2).at<|Zy hltj
    obtain ⟨rfl,rfl⟩:aU=some ⟨nb,no,none⟩/\kU=ncap:=by cases e2; exact ⟨rfl,rfl⟩
    generalize p.und[j]=x at hΦ hn
    subst hn
    refine cK<|xT<|cS<|cB<|cQ<|sV (vI (k:=j) Z Z jm Z hltj Z)<|sV (vY Z ld9 (ha:=⟨_,_,slq,hnrd 0<|by simp⟩)) ?_
    refine sA Z<|sK [1,2,14,16,117,118,119,124,125,126] Z<|cQ<|sV (vF Z xq Z)<|sV (vY Z fI) ?_
    refine sM Z<|aY Z Z Ea Z (fw (EA<|hpd.up hE2) x<|by omega) ?_
    refine sM Z ?_
    unfold Sk.f2a at hΦ
    cases hq:p.red.contains x
    ·rw [hq] at hΦ
     have hΦ : Φ ((p.und.drop (j+1)).flatMap (S.f2a p)++A) r:=hΦ
     iterate 11 refine aC rfl rfl rfl ?_
     refine sV (vP Z Z)<|sK [1,2,14,117,118,119,124,125,126,146] Z<|aG Z ?_
     refine cK<|xB<|xT<|cR<|sV (aI Z Z Za)<|sM Z<|sN<|nK [1,2,14,117,118,119,124,125,126] Z<|ax ?_
     refine aJ (Zq,r,j+1) ⟨hE2,hltj,hΦ⟩ (by dsimp only; omega)
    ·rw [hq] at hΦ
     have hΦ2 : Φ (S.cf 2 x ⟨p.name,x⟩ og0::((p.und.drop (j+1)).flatMap (S.f2a p)++A)) r:=hΦ
     refine sG Z Z (vM Z)<|sG Z Z (af Z fC Z ah) ?_
     refine sG Z Z (vM Z)<|sG Z Z (vF Z gH Z)<|sG Z Z (vY Z ld9) ?_
     refine sG Z Z (vM Z)<|sG Z Z (aO (cells:=[sv p.name,sv x]) Z<|λ_=>Zz) ?_
     refine sG Z Z (aO (cells:=[sv [],sv []]) Z<|λ_=>Zz) ?_
     refine bU Z Z Z Z jS Z (hcn 2 x ⟨p.name,x⟩ og0) ?_
     refine kg (gd:=134) (.inr ⟨_,_,Z,Z,Z⟩) Z Z (hy _ _ _ hΦ2) ?_
     rintro u h' (⟨rfl,r',hΦ4,rfl⟩ | ⟨rfl,r',hst,rfl⟩)
     ·simp only [lC,lN]
      refine sG Z Z (bg Z)<|sV (vQ Z Z)<|sK [1,2,14,117,118,119,124,125,126,146] Z<|aG Z ?_
      refine cK<|xB<|xT<|cR<|sV (aI Z Z Za)<|sM Z<|sN<|nK [1,2,14,117,118,119,124,125,126] Z<|ax ?_
      refine aJ (Zq,r',j+1) ⟨hE2,hltj,hΦ4⟩ (by dsimp only; omega)
     ·simp only [lC,lN]
      refine sG Z Z (bg Z)<|sV (vQ Z Z)<|sK [1,2,14,117,118,119,124,125,126,146] Z<|aQ Z ?_
      refine cQ<|sA Z<|sK [4] Z<|cT<|xW<|xR<|xR<|xW<|xW<|xR<|xR<|xW<|xR ?_
      exact aj Z ⟨Zq,[mps mb m,mps bm bmp,r'],Z,hEZ,r',Z,.inr ⟨Z,_,hst⟩⟩ sbq
   ·have hje:j=p.und.length:=Nat.le_antisymm hj<|Nat.not_lt.1 Zw
    subst hje
    rw [dL,List.nil_append] at hΦ
    refine aB<|xE<|xE<|xY<|xB<|xT<|cR<|sV (aI Z Z Za)<|sM Z<|sN<|nK [1,2,117,118,119] Z<|ax ?_
    refine aJ (Zq,r,i+1) ⟨hE.trans hE2,hlt,by rw [hA]; exact hΦ⟩ (by dsimp only; omega)
  ·have hie:i=S.c.pars.length:=Nat.le_antisymm hi<|Nat.not_lt.1 Zx
   subst hie
   rw [dL,List.nil_append] at hΦ
   rw [<- hT3] at hΦ
   refine aB<|xE<|xE<|xY<|xT<|cS<|cQ<|sV (vF Z gM Z)<|sV (vF Z eY Z)<|sV (vY Z lZ) ?_
   refine sV (aF Z underlying39)<|sM Z<|sK [1,2,151,152,153] Z<|cB<|aX (σ := Res×Res×Nat) (λq=>[(1,.func (.yield yl) #[] #[]),(2,.pointer (some ⟨b2,0,none⟩)),(151,.slice cb S.c.pars.length ck),(152,.int .i64 S.c.pars.length),(153,.int .i64 (q.2.2:Nat))]) (λq=>pt b2 (cl [v,.map (some mb),sv S.c.name,.bool S.c.dfd,ca,.slice cb S.c.pars.length ck,ce,.slice cf S.c.feats.length cfk,ci,.slice mA S.ms.length mK,.map (some bm),.bool all] 206)::q.1::mps mb m::mps bm bmp::q.2.1::hr) (λq=>Ext X q.1/\q.2.2≤S.c.pars.length /\ Φ ((S.c.pars.zipIdx.drop q.2.2).flatMap (S.f3)++T3) q.2.1) (λq=>S.c.pars.length - q.2.2) (Y,r,0) ⟨hE,Nat.zero_le _,hΦ⟩ ?_
   clear hΦ hE
   clear Y r
   rintro ⟨Y,r,i⟩ ⟨hE,hi,hΦ⟩
   simp only at hE hi hΦ
   dsimp only
   refine cQ<|sV (aN Z Z)<|sN<|nT<|cS<|cC Z (λhd=>?_)<|λhd=>?_
   ·have hlt:i<S.c.pars.length:=Zx
    rw [ko hlt,List.append_assoc] at hΦ
    have hlis:=hB.lists<|List.getElem_mem hlt
    obtain ⟨pb,po,pcap,pus,e1,hpus,hprd,hp⟩:=(hK.par.up hE).at<|Zy hlt
    obtain ⟨rfl,rfl⟩:cb=some ⟨pb,po,none⟩/\ck=pcap:=by cases e1; exact ⟨rfl,rfl⟩
    generalize S.c.pars[i]=p at hΦ hlis hp
    generalize hA:(S.c.pars.zipIdx.drop (i+1)).flatMap (S.f3)++T3=A at hΦ
    obtain ⟨hlR,hlU,hlD,hlS⟩:=hlis
    have hp0:=hp
    obtain ⟨pa,pr,pu,pd,pS,rfl,hpa,hpR,hpu,hpd,hpsel⟩:=hp
    obtain ⟨aA,kA,rfl,_⟩:=id hpa.form
    obtain ⟨aR,kR,rfl,_⟩:=id hpR.form
    obtain ⟨aU,kU,rfl,_⟩:=id hpu.form
    obtain ⟨aD,kD,rfl,_⟩:=id hpd.form
    obtain ⟨aS,kS,rfl,_⟩:=id hpsel.form
    refine cK<|xT<|cS<|cB<|cQ<|sM Z<|sV (vI (k:=i) Z Z oL Z hlt Z)<|sV (af Z qp Z hprd) ?_
    refine au vD λb18=>?_
    refine sA Z<|ai Z Z r9 Z Z ?_
    have hΦ : Φ ((S.fl p.name).mems.flatMap (S.f3a (p,i))++A) r:=hΦ
    refine sK [1,2,17,18,151,152,153] Z<|cQ<|sV (vF Z D8 Z)<|sV (vF Z iJ Z)<|sV (vY Z p9) ?_
    refine sV (vF Z gH Z)<|sV (vY Z ld9) ?_
    obtain ⟨fus,hfl,hfr2⟩:=(hK.fl.up hE) p.name
    obtain ⟨mx,my,rfl,hmx,hmy⟩:=hfr2
    obtain ⟨qA,qK,rfl,_⟩:=id hmx.form
    refine sV (gq hfl<|bI Z Z pY p8 slq) ?_
    refine sV (iI (k:=2) Z underlying55 Z isAgg52 Z)<|sV (aF Z underlying52)<|sM Z<|sK [1,2,17,18,151,152,153,164,165,166] Z<|cB<|aX (σ := Res×Res×Nat) (λq=>[(1,.func (.yield yl) #[] #[]),(2,.pointer (some ⟨b2,0,none⟩)),(151,.slice (some ⟨pb,po,none⟩) S.c.pars.length ck),(152,.int .i64 S.c.pars.length),(153,.int .i64 (i:Nat)),(18,.pointer (some ⟨b18,0,none⟩)),(17,.int .i64 (i:Nat)),(164,.slice qA (S.fl p.name).mems.length qK),(165,.int .i64 (S.fl p.name).mems.length),(166,.int .i64 (q.2.2:Nat))]) (λq=>pt b18 (cl [sv p.name,.slice aA p.args.length kA,.slice aR p.ren.length kR,.slice aU p.und.length kU,.slice aD p.red.length kD,.slice aS p.sel.length kS] 88)::pt b2 (cl [v,.map (some mb),sv S.c.name,.bool S.c.dfd,ca,.slice (some ⟨pb,po,none⟩) S.c.pars.length ck,ce,.slice cf S.c.feats.length cfk,ci,.slice mA S.ms.length mK,.map (some bm),.bool all] 206)::q.1::mps mb m::mps bm bmp::q.2.1::hr) (λq=>Ext Y q.1/\q.2.2≤(S.fl p.name).mems.length /\ Φ (((S.fl p.name).mems.drop q.2.2).flatMap (S.f3a (p,i))++A) q.2.1) (λq=>(S.fl p.name).mems.length - q.2.2) (Y,r,0) ⟨Ext.refl Y,Nat.zero_le _,hΦ⟩ ?_
    clear hΦ
    rintro ⟨Zq,r,j⟩ ⟨hE2,hj,hΦ⟩
    simp only at hE2 hj hΦ
    dsimp only
    refine cQ<|sV (aN Z Z)<|sN<|nT<|cS<|cC Z (λhd2=>?_)<|λhd2=>?_
    ·have hltj:j<(S.fl p.name).mems.length:=Zw
     rw [ed hltj,List.append_assoc] at hΦ
     have hEZ:=hE.trans hE2
     obtain ⟨nb,no,ncap,nus,e2,hnus,hnrd,hn⟩:=(hmx.up hE2).at<|Zy hltj
     obtain ⟨rfl,rfl⟩:qA=some ⟨nb,no,none⟩/\qK=ncap:=by cases e2; exact ⟨rfl,rfl⟩
     generalize (S.fl p.name).mems[j]=x at hΦ hn
     have hxo:=Enc.ones hn
     obtain ⟨x2,x5,xy,x11,x12,x13,rfl,-⟩:=dh hn
     unfold gz at *
     have hK9:=hK.up hEZ
     refine cK<|xT<|cS<|cB<|cQ<|sV (vI (k:=j) Z Z oM Z hltj Z)<|sV (af Z eU Z hnrd) ?_
     refine au ji λb20=>?_
     refine ai Z Z gP Z hxo ?_
     refine sK [1,2,17,18,20,151,152,153,164,165,166] Z<|cS<|bB (ork [(0,1),(1,2),(2,1),(3,2),(4,1),(5,0),(6,0),(7,2)] .nil) (λi => !(Nat.beq i 6)) mixed Zz ?_
     refine bu Z (af Z fC Z ah) ?_
     refine dV Z (vM Z)<|bu Z (af Z qp Z ah) ?_
     refine dV Z (vF Z eB Z)<|bu Z (vY Z ld9) ?_
     refine aV Z<|aH Z Z en173 Z (ul (n:=x.name)<|Enc.up hE2.rd hp0) ?_
     rintro u h' ⟨rfl,rfl⟩
     simp only [lC,lN]
     refine aW ?_
     refine aV Z<|aH Z Z J6 Z (pV (v:=v) (fv:=.map<|some mb) (c:=S.c) (ca:=ca) (cb:=.slice (some ⟨pb,po,none⟩) S.c.pars.length ck) (ce:=ce) (cf:=.slice cf S.c.feats.length cfk) (ci:=ci) (mv:=.slice mA S.ms.length mK) (all:=all) (bm:=bm) (i:=i) (n:=bN p x.name) (hK9.by'<|bN p x.name) (by have:=hB.under (bN p x.name); omega)) ?_
     rintro u h' ⟨Y3,k9,rfl,hE4,rows,hu,hro,rfl⟩
     simp only [lC,lN]
     refine aW ?_
     have hro:Rws Y3 rows (S.fro i<|bN p x.name):=hro
     have hrl:=hro.1
     have hfl9:=hB.fro i<|bN p x.name
     unfold Sk.f3a at hΦ
     dsimp only at hΦ
     generalize S.fro i (bN p x.name)=l at hΦ hro hrl hfl9
     refine dV Z (vA Z)<|bA<|nK [1,2,17,18,21,151,152,153,164,165,166] Z<|nT<|cS (fZ (v:=u) (E:=191) (sz:=18) (rows:=rows) slq λla lc hlf hll hlm=>?_)
     rw [hrl] at hlf hll
     subst hlf
     refine fJ (r:=VR (.slice la l.length lc) 191 18 rows) slq λhok=>?_
     refine Iq [VR (.slice la l.length lc) 191 18 rows] Y3 λY4 hE5 hsel=>?_
     have hls:Ls Y4 (.slice la l.length lc) l:=Rws.ls (E:=191) (hro.up hE5) hok (hsel _ _ .here) (by show l.length * 280≤reachBytes; have hrb:reachBytes=140737488351232:=rfl; omega)
     have hE6:=hE2.trans<|hE4.trans hE5
     have hEZ4:=hE.trans hE6
     refine cR<|sM Z<|sV (aF Z underlying187)<|sV (cu Z Z)<|sM Z ?_
     by_cases hq:1<l.length
     ·rw [if_pos hq] at hΦ
      have hg:decide ((1:Int)<(l.length:Nat))=true:=by simp; omega
      rw [hg]
      refine sG Z Z (af Z fC Z ah) ?_
      refine sG Z Z (vM Z)<|sG Z Z (vM Z)<|ku Z Z<|aH Z Z en207 Z (Hd hy hall en208 (is:=λ_ _=>true) (λa _ b _ us us' h h'=>reads_nil<|Jb h h') hls 3 _ r hΦ) ?_
      rintro u h' ⟨r',rfl,(⟨rfl,hΦ4⟩ | ⟨rfl,_,hst⟩)⟩
      ·simp only [lC,lN]
       refine sG Z Z (bg Z)<|sV (vQ Z Z)<|sK [1,2,17,18,151,152,153,164,165,166,186] Z<|aG Z ?_
       refine cK<|xB<|xT<|cR<|sV (aI Z Z Za)<|sM Z<|sN<|nK [1,2,17,18,151,152,153,164,165,166] Z<|ax ?_
       refine aJ (Y4,r',j+1) ⟨hE6,hltj,hΦ4⟩ (by dsimp only; omega)
      ·simp only [lC,lN]
       refine sG Z Z (bg Z)<|sV (vQ Z Z)<|sK [1,2,17,18,151,152,153,164,165,166,186] Z<|aQ Z ?_
       refine cQ<|sA Z<|sK [4] Z<|cT<|xW<|xR<|xR<|xW<|xW<|xR<|xR<|xW<|xR ?_
       exact aj Z ⟨Y4,[mps mb m,mps bm bmp,r'],Z,hEZ4,r',Z,.inr ⟨Z,_,hst⟩⟩ sbq
     ·rw [if_neg hq] at hΦ
      have hg:decide ((1:Int)<(l.length:Nat))=false:=by simp; omega
      rw [hg]
      iterate 5 refine aC rfl rfl rfl ?_
      refine sV (vP Z Z)<|sK [1,2,17,18,151,152,153,164,165,166,186] Z<|aG Z ?_
      refine cK<|xB<|xT<|cR<|sV (aI Z Z Za)<|sM Z<|sN<|nK [1,2,17,18,151,152,153,164,165,166] Z<|ax ?_
      refine aJ (Y4,r,j+1) ⟨hE6,hltj,hΦ⟩ (by dsimp only; omega)
    ·have hje:j=(S.fl p.name).mems.length:=Nat.le_antisymm hj<|Nat.not_lt.1 Zw
     subst hje
     rw [dL,List.nil_append] at hΦ
     refine aB<|xE<|xE<|xY<|xB<|xT<|cR<|sV (aI Z Z Za)<|sM Z<|sN<|nK [1,2,151,152,153] Z<|ax ?_
     refine aJ (Zq,r,i+1) ⟨hE.trans hE2,hlt,by rw [hA]; exact hΦ⟩ (by dsimp only; omega)
   ·have hie:i=S.c.pars.length:=Nat.le_antisymm hi<|Nat.not_lt.1 Zx
    subst hie
    rw [mP,List.nil_append] at hΦ
    rw [<- hT4] at hΦ
    refine aB<|xE<|xE<|xY<|xT<|cS<|cQ<|sV (vF Z gM Z)<|sV (vF Z eY Z)<|sV (vY Z lZ) ?_
    refine sV (aF Z underlying39)<|sM Z<|sK [1,2,191,192,193] Z<|cB<|aX (σ := Res×Res×Nat) (λq=>[(1,.func (.yield yl) #[] #[]),(2,.pointer (some ⟨b2,0,none⟩)),(191,.slice cb S.c.pars.length ck),(192,.int .i64 S.c.pars.length),(193,.int .i64 (q.2.2:Nat))]) (λq=>pt b2 (cl [v,.map (some mb),sv S.c.name,.bool S.c.dfd,ca,.slice cb S.c.pars.length ck,ce,.slice cf S.c.feats.length cfk,ci,.slice mA S.ms.length mK,.map (some bm),.bool all] 206)::q.1::mps mb m::mps bm bmp::q.2.1::hr) (λq=>Ext X q.1/\q.2.2≤S.c.pars.length /\ Φ ((S.c.pars.zipIdx.drop q.2.2).flatMap (S.f4)++T4) q.2.1) (λq=>S.c.pars.length - q.2.2) (Y,r,0) ⟨hE,Nat.zero_le _,hΦ⟩ ?_
    clear hΦ hE
    clear Y r
    rintro ⟨Y,r,i⟩ ⟨hE,hi,hΦ⟩
    simp only at hE hi hΦ
    dsimp only
    refine cQ<|sV (aN Z Z)<|sN<|nT<|cS<|cC Z (λhd=>?_)<|λhd=>?_
    ·have hlt:i<S.c.pars.length:=Zx
     rw [ko hlt,List.append_assoc] at hΦ
     have hlis:=hB.lists<|List.getElem_mem hlt
     obtain ⟨pb,po,pcap,pus,e1,hpus,hprd,hp⟩:=(hK.par.up hE).at<|Zy hlt
     obtain ⟨rfl,rfl⟩:cb=some ⟨pb,po,none⟩/\ck=pcap:=by cases e1; exact ⟨rfl,rfl⟩
     generalize S.c.pars[i]=p at hΦ hlis hp
     generalize hA:(S.c.pars.zipIdx.drop (i+1)).flatMap (S.f4)++T4=A at hΦ
     obtain ⟨hlR,hlU,hlD,hlS⟩:=hlis
     have hp0:=hp
     obtain ⟨pa,pr,pu,pd,pS,rfl,hpa,hpR,hpu,hpd,hpsel⟩:=hp
     obtain ⟨aA,kA,rfl,_⟩:=id hpa.form
     obtain ⟨aR,kR,rfl,_⟩:=id hpR.form
     obtain ⟨aU,kU,rfl,_⟩:=id hpu.form
     obtain ⟨aD,kD,rfl,_⟩:=id hpd.form
     obtain ⟨aS,kS,rfl,_⟩:=id hpsel.form
     refine cK<|xT<|cS<|cB<|cQ<|sM Z<|sV (vI (k:=i) Z Z oL Z hlt Z)<|sV (af Z qp Z hprd) ?_
     refine au vD λb23=>?_
     refine sA Z<|ai Z Z r9 Z Z ?_
     have hΦ : Φ (p.und.flatMap (S.f4a (p,i))++A) r:=hΦ
     refine sK [1,2,22,23,191,192,193] Z<|cQ<|sV (vF Z xn Z)<|sV (vY Z fI) ?_
     refine sV (aF Z underlying40)<|sM Z<|sK [1,2,22,191,192,193,199,200,201] Z<|cB<|aX (σ := Res×Res×Nat) (λq=>[(1,.func (.yield yl) #[] #[]),(2,.pointer (some ⟨b2,0,none⟩)),(191,.slice (some ⟨pb,po,none⟩) S.c.pars.length ck),(192,.int .i64 S.c.pars.length),(193,.int .i64 (i:Nat)),(22,.int .i64 (i:Nat)),(199,.slice aU p.und.length kU),(200,.int .i64 p.und.length),(201,.int .i64 (q.2.2:Nat))]) (λq=>pt b23 (cl [sv p.name,.slice aA p.args.length kA,.slice aR p.ren.length kR,.slice aU p.und.length kU,.slice aD p.red.length kD,.slice aS p.sel.length kS] 88)::pt b2 (cl [v,.map (some mb),sv S.c.name,.bool S.c.dfd,ca,.slice (some ⟨pb,po,none⟩) S.c.pars.length ck,ce,.slice cf S.c.feats.length cfk,ci,.slice mA S.ms.length mK,.map (some bm),.bool all] 206)::q.1::mps mb m::mps bm bmp::q.2.1::hr) (λq=>Ext Y q.1/\q.2.2≤p.und.length /\ Φ ((p.und.drop q.2.2).flatMap (S.f4a (p,i))++A) q.2.1) (λq=>p.und.length - q.2.2) (Y,r,0) ⟨Ext.refl Y,Nat.zero_le _,hΦ⟩ ?_
     clear hΦ
     rintro ⟨Zq,r,j⟩ ⟨hE2,hj,hΦ⟩
     simp only at hE2 hj hΦ
     dsimp only
     refine cQ<|sV (aN Z Z)<|sN<|nT<|cS<|cC Z (λhd2=>?_)<|λhd2=>?_
     ·have hltj:j<p.und.length:=Zw
      rw [ed hltj,List.append_assoc] at hΦ
      have hEZ:=hE.trans hE2
      obtain ⟨nb,no,ncap,nus,e2,hnus,hnrd,hn⟩:=(hpu.up hE2).at<|Zy hltj
      obtain ⟨rfl,rfl⟩:aU=some ⟨nb,no,none⟩/\kU=ncap:=by cases e2; exact ⟨rfl,rfl⟩
      generalize p.und[j]=x at hΦ hn
      subst hn
      refine cK<|xT<|cS<|cB<|cQ<|sV (vI (k:=j) Z Z jm Z hltj Z)<|sV (vY Z ld9 (ha:=⟨_,_,slq,hnrd 0<|by simp⟩)) ?_
      refine sA Z<|sK [1,2,22,25,191,192,193,199,200,201] Z<|cQ ?_
      have hK9:=hK.up hEZ
      refine sV (af Z fC Z ah) ?_
      refine sM Z<|sM Z<|aH Z Z J6 Z (pV (v:=v) (fv:=.map<|some mb) (c:=S.c) (ca:=ca) (cb:=.slice (some ⟨pb,po,none⟩) S.c.pars.length ck) (ce:=ce) (cf:=.slice cf S.c.feats.length cfk) (ci:=ci) (mv:=.slice mA S.ms.length mK) (all:=all) (bm:=bm) (i:=i) (n:=x) (hK9.by' x) (by have:=hB.under x; omega)) ?_
      rintro u h' ⟨Y3,k9,rfl,hE4,rows,hu,hro,rfl⟩
      simp only [lC,lN]
      have hro:Rws Y3 rows (S.fro i<|x):=hro
      have hrl:=hro.1
      have hfl:=hB.fro i<|x
      refine jr (v:=u) (E:=191) (sz:=18) (rows:=rows) slq λla lc hlf hll hlm=>?_
      rw [hrl] at hlf hll
      subst hlf
      have hΦ : Φ ((S.fro i x).flatMap (S.f4b x)++((p.und.drop (j+1)).flatMap (S.f4a (p,i))++A)) r:=hΦ
      generalize hA3:(p.und.drop (j+1)).flatMap (S.f4a (p,i))++A=A3 at hΦ
      generalize S.fro i x=l at hΦ hro hrl hfl
      refine nY (r:=VR (.slice la l.length lc) 191 18 rows) slq λhok=>?_
      refine pJ [VR (.slice la l.length lc) 191 18 rows] Y3 λY4 hE5 hsel=>?_
      have hls:Ls Y4 (.slice la l.length lc) l:=Rws.ls (E:=191) (hro.up hE5) hok (hsel _ _ .here) (by show l.length * 280≤reachBytes; have hrb:reachBytes=140737488351232:=rfl; omega)
      have hE6:=hE2.trans<|hE4.trans hE5
      have hEZ4:=hE.trans hE6
      refine sV (aF Z underlying187)<|sM Z<|sK [1,2,22,25,191,192,193,199,200,201,208,209,210] Z<|cB<|aX (σ := Res×Nat) (λq=>[(1,.func (.yield yl) #[] #[]),(2,.pointer (some ⟨b2,0,none⟩)),(191,.slice (some ⟨pb,po,none⟩) S.c.pars.length ck),(192,.int .i64 S.c.pars.length),(193,.int .i64 (i:Nat)),(22,.int .i64 (i:Nat)),(199,.slice (some ⟨nb,no,none⟩) p.und.length kU),(200,.int .i64 p.und.length),(201,.int .i64 (j:Nat)),(25,sv x),(208,.slice la l.length lc),(209,.int .i64 l.length),(210,.int .i64 (q.2:Nat))]) (λq=>pt b23 (cl [sv p.name,.slice aA p.args.length kA,.slice aR p.ren.length kR,.slice (some ⟨nb,no,none⟩) p.und.length kU,.slice aD p.red.length kD,.slice aS p.sel.length kS] 88)::pt b2 (cl [v,.map (some mb),sv S.c.name,.bool S.c.dfd,ca,.slice (some ⟨pb,po,none⟩) S.c.pars.length ck,ce,.slice cf S.c.feats.length cfk,ci,.slice mA S.ms.length mK,.map (some bm),.bool all] 206)::Y4::mps mb m::mps bm bmp::q.1::hr) (λq=>q.2≤l.length /\ Φ ((l.drop q.2).flatMap (S.f4b x)++A3) q.1) (λq=>l.length - q.2) (r,0) ⟨Nat.zero_le _,hΦ⟩ ?_
      clear hΦ
      rintro ⟨r,k⟩ ⟨hk,hΦ⟩
      simp only at hk hΦ
      dsimp only
      refine cQ<|sV (aN Z Z)<|sN<|nT<|cS<|cC Z (λhd3=>?_)<|λhd3=>?_
      ·have hltk:k<l.length:=Zr
       rw [ed hltk,List.append_assoc] at hΦ
       obtain ⟨cb',co,ccap,cus,e4,hcus,hcrd,hcr⟩:=hls.at<|Zy hltk
       obtain ⟨rfl,rfl⟩:la=some ⟨cb',co,none⟩/\lc=ccap:=by cases e4; exact ⟨rfl,rfl⟩
       generalize l[k]=y at hΦ hcr
       have hyo:=Enc.ones hcr
       obtain ⟨y2,y5,yy,y11,y12,y13,rfl,-⟩:=gZ hcr
       have hogy:=λb=>nu (b:=b) (x:=y) (x2:=y2) (x5:=y5) (y:=yy) (x11:=y11) (x12:=y12) (x13:=y13)
       unfold oC at *
       refine cK<|xT<|cS<|cB<|cQ<|sV (vI (k:=k) Z Z lF Z hltk Z)<|sV (af Z gV Z hcrd) ?_
       refine au qR λb27=>?_
       refine ai Z Z mr Z hyo ?_
       refine sK [1,2,22,25,27,191,192,193,199,200,201,208,209,210] Z<|cQ<|sV (vF Z fa191_3 Z)<|sV (vY Z ld3) ?_
       refine sV (bP Z Z)<|sM Z ?_
       unfold Sk.f4b at hΦ
       cases hq:(y.was != 2)
       ·have hw:¬ y.was≠2:=Zu
        rw [if_neg hw] at hΦ
        iterate 9 refine aC rfl rfl rfl ?_
        refine sV (vP Z Z)<|sK [1,2,22,25,191,192,193,199,200,201,208,209,210,227] Z<|aG Z ?_
        refine cK<|xB<|xT<|cR<|sV (aI Z Z Za)<|sM Z<|sN<|nK [1,2,22,25,191,192,193,199,200,201,208,209,210] Z<|ax ?_
        refine aJ (r,k+1) ⟨hltk,hΦ⟩ (by dsimp only; omega)
       ·have hw:y.was≠2:=Zu
        rw [if_pos hw] at hΦ
        have hΦ2 : Φ (S.cf 4 x y.og og0::((l.drop (k+1)).flatMap (S.f4b x)++A3)) r:=hΦ
        refine sG Z Z (vM Z)<|sG Z Z (af Z fC Z ah) ?_
        refine sG Z Z (vM Z)<|sG Z Z (vF Z jo Z)<|sG Z Z (af Z qm Z (hogy b27) (s:=.here)) ?_
        refine sG Z Z (aO (cells:=[sv [],sv []]) Z<|λ_=>Zz) ?_
        refine bU Z Z Z Z jS Z (hcn 4 x y.og og0) ?_
        refine kg (gd:=217) (.inr ⟨_,_,Z,Z,Z⟩) Z Z (hy _ _ _ hΦ2) ?_
        rintro u h' (⟨rfl,r',hΦ4,rfl⟩ | ⟨rfl,r',hst,rfl⟩)
        ·simp only [lC,lN]
         refine sG Z Z (bg Z)<|sV (vQ Z Z)<|sK [1,2,22,25,191,192,193,199,200,201,208,209,210,227] Z<|aG Z ?_
         refine cK<|xB<|xT<|cR<|sV (aI Z Z Za)<|sM Z<|sN<|nK [1,2,22,25,191,192,193,199,200,201,208,209,210] Z<|ax ?_
         refine aJ (r',k+1) ⟨hltk,hΦ4⟩ (by dsimp only; omega)
        ·simp only [lC,lN]
         refine sG Z Z (bg Z)<|sV (vQ Z Z)<|sK [1,2,22,25,191,192,193,199,200,201,208,209,210,227] Z<|aQ Z ?_
         refine cQ<|sA Z<|sK [4] Z<|cT<|xW<|xR<|xR<|xW<|xW<|xR<|xR<|xW<|xW ?_
         refine xR<|xR<|xW<|xR ?_
         exact aj Z ⟨Y4,[mps mb m,mps bm bmp,r'],Z,hEZ4,r',Z,.inr ⟨Z,_,hst⟩⟩ sbq
      ·have hke:k=l.length:=Nat.le_antisymm hk<|Nat.not_lt.1 Zr
       subst hke
       rw [dL,List.nil_append] at hΦ
       refine aB<|xE<|xE<|xY<|xB<|xT<|cR<|sV (aI Z Z Za)<|sM Z<|sN<|nK [1,2,22,191,192,193,199,200,201] Z<|ax ?_
       refine aJ (Y4,r,j+1) ⟨hE6,hltj,by rw [hA3]; exact hΦ⟩ (by dsimp only; omega)
     ·have hje:j=p.und.length:=Nat.le_antisymm hj<|Nat.not_lt.1 Zw
      subst hje
      rw [dL,List.nil_append] at hΦ
      refine aB<|xE<|xE<|xY<|xB<|xT<|cR<|sV (aI Z Z Za)<|sM Z<|sN<|nK [1,2,191,192,193] Z<|ax ?_
      refine aJ (Zq,r,i+1) ⟨hE.trans hE2,hlt,by rw [hA]; exact hΦ⟩ (by dsimp only; omega)
    ·have hie:i=S.c.pars.length:=Nat.le_antisymm hi<|Nat.not_lt.1 Zx
     subst hie
     rw [mP,List.nil_append] at hΦ
     rw [<- hT5] at hΦ
     refine aB<|xE<|xE<|xY<|xT<|cS<|cQ<|sV (vF Z gM Z)<|sV (vF Z eY Z)<|sV (vY Z lZ) ?_
     refine sV (aF Z underlying39)<|sM Z<|sK [1,2,233,234,235] Z<|cB<|aX (σ := Res×Res×Nat) (λq=>[(1,.func (.yield yl) #[] #[]),(2,.pointer (some ⟨b2,0,none⟩)),(233,.slice cb S.c.pars.length ck),(234,.int .i64 S.c.pars.length),(235,.int .i64 (q.2.2:Nat))]) (λq=>pt b2 (cl [v,.map (some mb),sv S.c.name,.bool S.c.dfd,ca,.slice cb S.c.pars.length ck,ce,.slice cf S.c.feats.length cfk,ci,.slice mA S.ms.length mK,.map (some bm),.bool all] 206)::q.1::mps mb m::mps bm bmp::q.2.1::hr) (λq=>Ext X q.1/\q.2.2≤S.c.pars.length /\ Φ ((S.c.pars.drop q.2.2).flatMap (S.f5)++R) q.2.1) (λq=>S.c.pars.length - q.2.2) (Y,r,0) ⟨hE,Nat.zero_le _,hΦ⟩ ?_
     clear hΦ hE
     clear Y r
     rintro ⟨Y,r,i⟩ ⟨hE,hi,hΦ⟩
     simp only at hE hi hΦ
     dsimp only
     refine cQ<|sV (aN Z Z)<|sN<|nT<|cS<|cC Z (λhd=>?_)<|λhd=>?_
     ·have hlt:i<S.c.pars.length:=Zx
      rw [ed hlt,List.append_assoc] at hΦ
      have hlis:=hB.lists<|List.getElem_mem hlt
      obtain ⟨pb,po,pcap,pus,e1,hpus,hprd,hp⟩:=(hK.par.up hE).at<|Zy hlt
      obtain ⟨rfl,rfl⟩:cb=some ⟨pb,po,none⟩/\ck=pcap:=by cases e1; exact ⟨rfl,rfl⟩
      generalize S.c.pars[i]=p at hΦ hlis hp
      generalize hA:(S.c.pars.drop (i+1)).flatMap (S.f5)++R=A at hΦ
      obtain ⟨hlR,hlU,hlD,hlS⟩:=hlis
      have hp0:=hp
      obtain ⟨pa,pr,pu,pd,pS,rfl,hpa,hpR,hpu,hpd,hpsel⟩:=hp
      obtain ⟨aA,kA,rfl,_⟩:=id hpa.form
      obtain ⟨aR,kR,rfl,_⟩:=id hpR.form
      obtain ⟨aU,kU,rfl,_⟩:=id hpu.form
      obtain ⟨aD,kD,rfl,_⟩:=id hpd.form
      obtain ⟨aS,kS,rfl,_⟩:=id hpsel.form
      refine cK<|xT<|cS<|cB<|cQ<|sV (vI (k:=i) Z Z oL Z hlt Z)<|sV (af Z qp Z hprd) ?_
      refine au vD λb29=>?_
      refine ai Z Z r9 Z Z ?_
      have hΦ : Φ (p.red.flatMap (S.f5a p)++A) r:=hΦ
      refine sK [1,2,29,233,234,235] Z<|cQ<|sV (vF Z xq Z)<|sV (vY Z fI) ?_
      refine sV (aF Z underlying40)<|sM Z<|sK [1,2,29,233,234,235,240,241,242] Z<|cB<|aX (σ := Res×Res×Nat) (λq=>[(1,.func (.yield yl) #[] #[]),(2,.pointer (some ⟨b2,0,none⟩)),(233,.slice (some ⟨pb,po,none⟩) S.c.pars.length ck),(234,.int .i64 S.c.pars.length),(235,.int .i64 (i:Nat)),(29,.pointer (some ⟨b29,0,none⟩)),(240,.slice aD p.red.length kD),(241,.int .i64 p.red.length),(242,.int .i64 (q.2.2:Nat))]) (λq=>pt b29 (cl [sv p.name,.slice aA p.args.length kA,.slice aR p.ren.length kR,.slice aU p.und.length kU,.slice aD p.red.length kD,.slice aS p.sel.length kS] 88)::pt b2 (cl [v,.map (some mb),sv S.c.name,.bool S.c.dfd,ca,.slice (some ⟨pb,po,none⟩) S.c.pars.length ck,ce,.slice cf S.c.feats.length cfk,ci,.slice mA S.ms.length mK,.map (some bm),.bool all] 206)::q.1::mps mb m::mps bm bmp::q.2.1::hr) (λq=>Ext Y q.1/\q.2.2≤p.red.length /\ Φ ((p.red.drop q.2.2).flatMap (S.f5a p)++A) q.2.1) (λq=>p.red.length - q.2.2) (Y,r,0) ⟨Ext.refl Y,Nat.zero_le _,hΦ⟩ ?_
      clear hΦ
      rintro ⟨Zq,r,j⟩ ⟨hE2,hj,hΦ⟩
      simp only at hE2 hj hΦ
      dsimp only
      refine cQ<|sV (aN Z Z)<|sN<|nT<|cS<|cC Z (λhd2=>?_)<|λhd2=>?_
      ·have hltj:j<p.red.length:=Zw
       rw [ed hltj,List.append_assoc] at hΦ
       have hEZ:=hE.trans hE2
       obtain ⟨nb,no,ncap,nus,e2,hnus,hnrd,hn⟩:=(hpd.up hE2).at<|Zy hltj
       obtain ⟨rfl,rfl⟩:aD=some ⟨nb,no,none⟩/\kD=ncap:=by cases e2; exact ⟨rfl,rfl⟩
       generalize p.red[j]=x at hΦ hn
       subst hn
       refine cK<|xT<|cS<|cB<|cQ<|sV (vI (k:=j) Z Z jm Z hltj Z)<|sV (vY Z ld9 (ha:=⟨_,_,slq,hnrd 0<|by simp⟩)) ?_
       refine sA Z<|sK [1,2,29,31,233,234,235,240,241,242] Z<|cQ<|sV (vF Z gM Z)<|sV (vF Z kv Z)<|sV (vY Z yX) ?_
       refine sM Z<|aH Z Z yE Z (iT (n:=x)<|hK.feat.up hEZ) ?_
       rintro u h' ⟨rfl,gus,rfl,hgr⟩
       simp only [lC,lN]
       have hg15:gus.length=15:=Enc.len hgr
       have hgo:=Enc.ones hgr
       refine sM Z<|sV (ag Z Z)<|sV (ag Z Z) (au lH λb32=>?_)
       refine ai (hl:=by rw [hg15]; rfl) Z Z jQ hg15 hgo ?_
       refine sA Z<|sK [1,2,29,31,33,233,234,235,240,241,242] Z<|cQ<|sM Z<|sV (bg Z)<|sM Z ?_
       have hmf:(S.c.feats.find? λc=>c.name == x)=feat S.c x:=rfl
       rw [hmf]
       unfold Sk.f5a at hΦ
       cases hq:feat S.c x
       ·rw [hq] at hΦ
        have hΦ2 : Φ (S.cf 5 x ⟨p.name,x⟩ og0::((p.red.drop (j+1)).flatMap (S.f5a p)++A)) r:=hΦ
        refine sG Z Z (vM Z)<|sG Z Z (af Z fC Z ah) ?_
        refine sG Z Z (vM Z)<|sG Z Z (vF Z gH Z)<|sG Z Z (vY Z ld9) ?_
        refine sG Z Z (vM Z)<|sG Z Z (aO (cells:=[sv p.name,sv x]) Z<|λ_=>Zz) ?_
        refine sG Z Z (aO (cells:=[sv [],sv []]) Z<|λ_=>Zz) ?_
        refine bU Z Z Z Z jS Z (hcn 5 x ⟨p.name,x⟩ og0) ?_
        refine kg (gd:=256) (.inr ⟨_,_,Z,Z,Z⟩) Z Z (hy _ _ _ hΦ2) ?_
        rintro u h' (⟨rfl,r',hΦ4,rfl⟩ | ⟨rfl,r',hst,rfl⟩)
        ·simp only [lC,lN]
         refine sG Z Z (bg Z)<|sV (vQ Z Z)<|sK [1,2,29,233,234,235,240,241,242,268] Z<|aG Z ?_
         refine cK<|xB<|xT<|cR<|sV (aI Z Z Za)<|sM Z<|sN<|nK [1,2,29,233,234,235,240,241,242] Z<|ax ?_
         refine aJ (Zq,r',j+1) ⟨hE2,hltj,hΦ4⟩ (by dsimp only; omega)
        ·simp only [lC,lN]
         refine sG Z Z (bg Z)<|sV (vQ Z Z)<|sK [1,2,29,233,234,235,240,241,242,268] Z<|aQ Z ?_
         refine cQ<|sA Z<|sK [4] Z<|cT<|xW<|xR<|xR<|xW<|xW<|xR<|xR<|xW<|xR ?_
         exact aj Z ⟨Zq,[mps mb m,mps bm bmp,r'],Z,hEZ,r',Z,.inr ⟨Z,_,hst⟩⟩ sbq
       ·rw [hq] at hΦ
        have hΦ : Φ ((p.red.drop (j+1)).flatMap (S.f5a p)++A) r:=hΦ
        iterate 11 refine aC rfl rfl rfl ?_
        refine sV (vP Z Z)<|sK [1,2,29,233,234,235,240,241,242,268] Z<|aG Z ?_
        refine cK<|xB<|xT<|cR<|sV (aI Z Z Za)<|sM Z<|sN<|nK [1,2,29,233,234,235,240,241,242] Z<|ax ?_
        refine aJ (Zq,r,j+1) ⟨hE2,hltj,hΦ⟩ (by dsimp only; omega)
      ·have hje:j=p.red.length:=Nat.le_antisymm hj<|Nat.not_lt.1 Zw
       subst hje
       rw [dL,List.nil_append] at hΦ
       refine aB<|xE<|xE<|xY<|xB<|xT<|cR<|sV (aI Z Z Za)<|sM Z<|sN<|nK [1,2,233,234,235] Z<|ax ?_
       refine aJ (Zq,r,i+1) ⟨hE.trans hE2,hlt,by rw [hA]; exact hΦ⟩ (by dsimp only; omega)
     ·have hie:i=S.c.pars.length:=Nat.le_antisymm hi<|Nat.not_lt.1 Zx
      subst hie
      rw [dL,List.nil_append] at hΦ
      refine aB<|xE<|xE<|xY<|xT<|cQ<|sA Z<|sK [4] Z<|cT ?_
      exact aj Z ⟨Y,[mps mb m,mps bm bmp,r],Z,hE,r,Z,.inl ⟨Z,hΦ⟩⟩ sbq
end
end Go.Fl
