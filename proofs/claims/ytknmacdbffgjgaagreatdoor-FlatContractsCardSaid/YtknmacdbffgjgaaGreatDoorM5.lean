/-
  Package heir: shortest. Conditions: what is read.
-/
import Derived.Test.YtknmacdbffgjgaaGreatDoorM4
import Derived.Test.YtknmacdbffgjgaaGreatDoorM1
set_option linter.unusedVariables false
set_option linter.unusedSimpArgs false
set_option maxRecDepth 100000
set_option maxHeartbeats 16000000
namespace Go.Ck
open Go Go.RowKit

section
variable {P:Program} {e:Env} {h h':SH} {ty:TypeId}
theorem Nf {b o n cp m k sz:Nat} {E:TypeId} {rows:List (List Value)} {r:List Value} {v:Value} (hm:rows[m]? = some r) (hk:r[k]? = some v):Rd (VR (.slice (some ⟨b,o,none⟩) n cp) E sz rows) ⟨b,o+m * sz+k,none⟩ v:=qU (eQ hm) hk
theorem mF {T E : TypeId} {x y : Operand} {b o n cp lo sz : Nat} {i : Int} {k : IntKind} (hx : e.ev? x = some (.slice (some ⟨b, o, none⟩) n cp)) (hy : e.ev? y = some (.int k i)) (hT : SlE P T E sz)
  (hi':i=(lo:Int)) (h1:lo≤n) (hc:n≤cp):Vop P e h (.slice T x (some y) none none) ty (.slice (some ⟨b,if cp=lo then o else o+lo * sz,none⟩) (n - lo) (cp - lo)):=
 ⟨by simp,by simp,λρ w d pos after g hρ _=>by
  subst hi'
  have hT':P.underlying T=some (.slice<|P.elem T):=by simp [Program.elem,hT.1]
  have he:P.elem T=E:=by simp [Program.elem,hT.1]
  have hr:=run_slice_l (P:=P) w T (some ⟨b,o,none⟩) n cp hT' k lo (by omega)<|by omega
  have hs:sliced (some ⟨b,o,none⟩) lo n cp sz = .slice (some ⟨b,if cp=lo then o else o+lo * sz,none⟩) (n - lo) (cp - lo):=by
   unfold sliced; by_cases hcl:cp=lo <;> simp [hcl,Addr.add_lit]
  simp only [he,hT.2 w,Result.andThen_ok,Int.toNat_natCast,hs] at hr
  simp only [execOp,hρ x _ hx,Option.map_some,Option.map_none,hρ y _ hy,Sem.run_bind,run_sliceAt_slice w T _ _ _ _ hT',hr,Result.andThen_ok,Sem.run_pure]⟩
theorem jU {T E : TypeId} {x y : Operand} {b o n cp hi sz : Nat} {i : Int} {k : IntKind} (hx : e.ev? x = some (.slice (some ⟨b, o, none⟩) n cp)) (hy : e.ev? y = some (.int k i)) (hT : SlE P T E sz)
  (hi':i=(hi:Int)) (h1:hi≤cp):Vop P e h (.slice T x none (some y) none) ty (.slice (some ⟨b,o,none⟩) hi cp):=
 ⟨by simp,by simp,λρ w d pos after g hρ _=>by
  subst hi'
  have hT':P.underlying T=some (.slice<|P.elem T):=by simp [Program.elem,hT.1]
  have he:P.elem T=E:=by simp [Program.elem,hT.1]
  have hr:=run_slice_h (P:=P) w T (some ⟨b,o,none⟩) n cp hT' k hi (by omega)<|by omega
  have hs:sliced (some ⟨b,o,none⟩) 0 hi cp sz = .slice (some ⟨b,o,none⟩) hi cp:=by
   unfold sliced; by_cases hcl:cp=0 <;> simp [hcl,Addr.add_lit]
  simp only [he,hT.2 w,Result.andThen_ok,Int.toNat_natCast,Int.toNat_zero,hs] at hr
  simp only [execOp,hρ x _ hx,Option.map_some,Option.map_none,hρ y _ hy,Sem.run_bind,run_sliceAt_slice w T _ _ _ _ hT',hr,Result.andThen_ok,Sem.run_pure]⟩
end

/-! ## What is known without a step -/
section
variable {c:Cx} {ops:Array Oper} {K:Act->World->Prop} {rest:List Oper} {e:Env} {h h':SH} {Q:Exit->Act->World->Prop} {x:Code} {ex:Exit} {r:Res}
theorem fJ (s:Sel h r h') (hc:(∃ f,r.ok f)->Cd c x Q e h):Cd c x Q e h:=λa w hk hh hw=>hc ⟨_,(hh.sel s).1⟩ a w hk hh hw
theorem nY (s:Sel h r h') (hc:(∃ f,r.ok f)->St c ops K rest e h):St c ops K rest e h:=λa w hk hh hw=>hc ⟨_,(hh.sel s).1⟩ a w hk hh hw
theorem dY (s:Sel h r h') (hc:(∃ f,r.ok f)->Xt c ex Q e h):Xt c ex Q e h:=λa w hk hh hw=>hc ⟨_,(hh.sel s).1⟩ a w hk hh hw
def Vw (h h':SH):Prop:=∀ w:World,Holds w h->Holds w h'
theorem dK (hv:Vw h h') (hc:Cd c x Q e h'):Cd c x Q e h:=λa w hk hh hw=>hc a w hk (hv w hh) hw
theorem qg (hv:Vw h h') (hc:St c ops K rest e h'):St c ops K rest e h:=λa w hk hh hw=>hc a w hk (hv w hh) hw
theorem jC (hv:Vw h h') (hc:Xt c ex Q e h'):Xt c ex Q e h:=λa w hk hh hw=>hc a w hk (hv w hh) hw
theorem Vw.sel {k:SH} (s:Sel h r h') (hv:Vw (r::h') k):Vw h k:=λw hh=>hv w<|hh.sel s
theorem Vw.pk {k hr m:SH} (p:Pk h k hr) (hv:Vw (k++hr) m):Vw h m:=λw hh=>hv w<|hh.pk p
theorem Vw.trans {a b d:SH} (p:Vw a b) (q:Vw b d):Vw a d:=λw h=>q w<|p w h
theorem Vw.refl:Vw h h:=λ_ hh=>hh
theorem Vw.frame {a b:SH} (hv:Vw a b) (hl:∀ w:World,Holds w a->∀ x,SH.dom b x->SH.dom a x) {k:SH}:Vw (a++k) (b++k):=λw hh=>by
 obtain ⟨h1,h2,h3⟩:=bi.append.1 hh
 exact bi.append.2 ⟨hv w h1,h2,λx hx=>h3 x<|hl w h1 x hx⟩
theorem eO {L k:SH}:Vw (L++k) (Res.star L::k):=λ_ hh=>bW.2 hh
end

/-! ## Rows -/
section
variable {v:Value} {E:TypeId} {sz:Nat} {rows rows':List (List Value)} {h h':SH}
theorem zu {b o n cp m:Nat} (hm:m≤rows.length):Vw (VR (.slice (some ⟨b,o,none⟩) n cp) E sz rows::h) (VR (.slice (some ⟨b,o,none⟩) m cp) E sz (rows.take m)::h):=λ_ hh=>hh.vr_take hm
theorem vw_of {b n:Nat} {cells:List Value} (rows:List (List Value)) (hc:cells=rows.flatten) (h1:∀ r∈rows,r.length=sz) (hn:rows.length=n) (hm:n≤maxLen):Vw (pt b (cl cells E)::h) (VR (.slice (some ⟨b,0,none⟩) n n) E sz rows::h):=λ_ hh=>hh.vr_of hc h1 hn hm
theorem cO (E:TypeId) (sz:Nat):Vw h (VR (.slice none 0 0) E sz []::h):=λ_ hh=>hh.vr_nil E sz
end
section
variable {c:Cx} {ops:Array Oper} {K:Act->World->Prop} {rest:List Oper} {e:Env} {h h':SH} {Q:Exit->Act->World->Prop} {x:Code} {ex:Exit}
variable {v:Value} {E:TypeId} {sz:Nat} {rows rows':List (List Value)}
theorem cd_row (s:Sel h (VR v E sz rows) h') (h0:v = .slice none 0 0->rows=[]->Cd c x Q e h) (h1:∀ b o cp,v = .slice (some ⟨b,o,none⟩) rows.length cp->rows.length≤cp->cp≤maxLen->Cd c x Q e h):Cd c x Q e h :=
 fJ s λ⟨_,hf⟩=>(VR.form hf).elim (λ⟨a,b⟩=>h0 a b) λ⟨b,o,cp,h2,h3,h4⟩=>h1 b o cp h2 h3 h4
theorem st_row (s:Sel h (VR v E sz rows) h') (h0:v = .slice none 0 0->rows=[]->St c ops K rest e h) (h1:∀ b o cp,v = .slice (some ⟨b,o,none⟩) rows.length cp->rows.length≤cp->cp≤maxLen->St c ops K rest e h):St c ops K rest e h :=
 nY s λ⟨_,hf⟩=>(VR.form hf).elim (λ⟨a,b⟩=>h0 a b) λ⟨b,o,cp,h2,h3,h4⟩=>h1 b o cp h2 h3 h4
theorem fZ (s:Sel h (VR v E sz rows) h') (hc:∀ a cp,v = .slice a rows.length cp->rows.length≤cp->cp≤maxLen->Cd c x Q e h):Cd c x Q e h :=
 cd_row s (λh1 h2=>hc none 0 (by rw [h1,h2]; rfl) (by rw [h2]; exact Nat.le_refl _)<|Nat.zero_le _) λb o cp h1 h2 h3=>hc _ cp h1 h2 h3
theorem jr (s:Sel h (VR v E sz rows) h') (hc:∀ a cp,v = .slice a rows.length cp->rows.length≤cp->cp≤maxLen->St c ops K rest e h):St c ops K rest e h :=
 st_row s (λh1 h2=>hc none 0 (by rw [h1,h2]; rfl) (by rw [h2]; exact Nat.le_refl _)<|Nat.zero_le _) λb o cp h1 h2 h3=>hc _ cp h1 h2 h3
theorem J8 {d:Nat} {t ty:TypeId} {x y:Operand} {pos:String} {after:Array Edge} {z:Value} {bytes m cp:Nat} {src:Addr} (news:List (List Value))
  (hx:e.ev? x=some v) (hy:e.ev? y=some (.slice (some src) m cp)) (ht:c.P.underlying t=some (.slice E)) (hE:Inf c.P E z sz bytes) (hzs:z.cells.size=sz) (hsz:0<sz)
  (hs:Sel h (VR v E sz rows) h') (hn1:∀ r∈news,r.length=sz) (hl:news.length=m) (hnews:∀ j u,news.flatten[j]? = some u->At h (src.add j) u) (h1:∀ u∈news.flatten,u.oneCell'=true)
  (hb:(rows.length+m) * bytes≤140737488355328) (h63:rows.length+m≤9223372036854775807) (hd:d<c.n)
  (hnx:∀ v',v'.oneCell'=true->(v' = .slice none 0 0↔v = .slice none 0 0/\m=0)->St c ops K rest ((d,v')::e) (VR v' E sz (rows++news)::h')) :
  St c ops K (⟨some d,.call { callee:=.builtin .append,args := #[x,y],argTypes := #[t,t] },ty,pos,after,none⟩::rest) e h :=
 ek (by simp) λa w hk hh hw=>by
  obtain ⟨v',w',hr,hH,hS,hv⟩:=BD (P:=c.P) ty ht hE hzs hsz (hh.sel hs) (src:=src) (cp:=cp) hn1 hl (λj u hu=>(hnews j u hu).cell hh) h1 hb h63
  simp only [execOp,resolve,invoke,builtin,hk.ev hx,hk.ev hy,Sem.run_bind,Sem.run_pure,Result.andThen_ok,List.map_toArray,List.map_cons,List.map_nil,hr]
  exact hnx v' (VR.one hH.1) hv _ w' (hk.put _ hd) hH<|hw.trans hS
theorem dZ {d:Nat} {t ty:TypeId} {x y:Operand} {pos:String} {after:Array Edge} {z:Value} {bytes sb so m cp:Nat} (news:List (List Value))
  (hx:e.ev? x=some v) (hy:e.ev? y=some (.slice (some ⟨sb,so,none⟩) m cp)) (ht:c.P.underlying t=some (.slice E)) (hE:Inf c.P E z sz bytes) (hzs:z.cells.size=sz) (hsz:0<sz)
  (hs:Sel h (VR v E sz rows) h') (hn1:∀ r∈news,r.length=sz) (hl:news.length=m) (hnews:∀ j u,news.flatten[j]? = some u->At h ⟨sb,so+j,none⟩ u) (h1:∀ u∈news.flatten,u.oneCell'=true)
  (hb:(rows.length+m) * bytes≤140737488355328) (h63:rows.length+m≤9223372036854775807) (hd:d<c.n)
  (hnx:∀ v',v'.oneCell'=true->(v' = .slice none 0 0↔v = .slice none 0 0/\m=0)->St c ops K rest ((d,v')::e) (VR v' E sz (rows++news)::h')) :
  St c ops K (⟨some d,.call { callee:=.builtin .append,args := #[x,y],argTypes := #[t,t] },ty,pos,after,none⟩::rest) e h :=
 J8 news hx hy ht hE hzs hsz hs hn1 hl (λj u hu=>by rw [Addr.add_lit]; exact hnews j u hu) h1 hb h63 hd hnx
theorem Aq {d : Nat} {T ty : TypeId} {pos : String} {after : Array Edge} {z : Value} {bytes : Nat} (hT : c.P.underlying T = some (.slice E)) (hE : Inf c.P E z sz bytes)
  (hnx:∀ b,St c ops K rest ((d,.slice (some ⟨b,0,none⟩) 0 0)::e) (VR (.slice (some ⟨b,0,none⟩) 0 0) E sz []::h)) (hd:d<c.n:=by exact ltn rfl) :
  St c ops K (⟨some d,.buildSlice T 0 #[],ty,pos,after,none⟩::rest) e h :=
 zY (sz:=sz) hT hE hd λb=>λa w hk hh hw=>hnx b a w hk (by
  obtain ⟨h1,h2,h3⟩:=hh
  rcases h1.2 with ⟨h4,_⟩ | ⟨b',cp,j,h4,h5,_⟩
  ·cases h4
  ·cases h4
   exact ⟨⟨by simp,.inr ⟨b,0,0,[],j,rfl,by simpa using h5,rfl,Nat.le_refl _,Nat.zero_le _,by simp⟩⟩,λx ⟨o,m,cp,hv⟩=>(by cases hv; exact h2 _ ⟨_,_,rfl⟩),h3⟩) hw
end

/-! ## One of many -/
def upd {α : Type} (f:Nat -> α) (i:Nat) (x : α):Nat -> α := λk=>if k=i then x else f k
theorem upd_same {α : Type} (f:Nat -> α) (i:Nat) (x : α):upd f i x i=x:=if_pos rfl
def foc {α : Type} (n i:Nat) (c : α) (g:Nat -> α):List α := (List.range n).map (upd g i c)
theorem foc_get {α : Type} {n i:Nat} {c : α} {g:Nat -> α} (hi:i<n):(foc n i c g)[i]? = some c:=by simp [foc,List.getElem?_map,List.getElem?_range,hi,upd_same]
def others (n i:Nat):List Nat:=(List.range n).filter λk=>decide (k≠i)
def RSx (n i:Nat) (R:Nat->Res):Res:=Res.star ((others n i).map R)
def RS (n:Nat) (R:Nat->Res):Res:=Res.star ((List.range n).map R)
section
variable {P:Program} {e:Env} {h:SH} {ty:TypeId}
theorem vY {T:TypeId} {x:Operand} {p:Addr} {v:Value} (hx:e.ev? x=some (.pointer (some p))) (hT:Ld1 P T)
  (ha:At h p v:=by repeat (first | exact bT (bV<|by rfl) | exact bT (qU (by assumption)<|by rfl) | exact bT (Nf (foc_get<|by assumption)<|by rfl) | exact bT (Nf (by rfl)<|by rfl) | exact bT (by assumption) | apply MK)):Vop P e h (.load T x) ty v:=v_load hx hT ha
theorem af {T:TypeId} {x:Operand} {b o n:Nat} {vs:List Value} {r:Res} {h':SH} (hx:e.ev? x=some (.pointer (some ⟨b,o,none⟩))) (hT:LdN P T n) (hl:vs.length=n) (hr:Rds r b o vs) (s:Sel h r h':=by repeat (first | exact Sel.here | apply Sel.there)) :
  Vop P e h (.load T x) ty (.agg vs.toArray):=v_loadR hx hT hl s hr
end
section
variable {c:Cx} {ops:Array Oper} {K:Act->World->Prop} {rest:List Oper} {e:Env} {h k k' hr:SH} {Q:Exit->Act->World->Prop} {x:Code} {ex:Exit}
theorem cd_pv (hv:∀ t,Vw (k++t) (k'++t)) (hc:Cd c x Q e (k'++hr)) (p:Pk h k hr:=by repeat (first | exact Pk.nil | (apply Pk.cons; (repeat (first | exact Sel.here | apply Sel.there))))):Cd c x Q e h:=dK (Vw.pk p<|hv hr) hc
theorem Ar (hv:∀ t,Vw (k++t) (k'++t)) (hc:St c ops K rest e (k'++hr)) (p:Pk h k hr:=by repeat (first | exact Pk.nil | (apply Pk.cons; (repeat (first | exact Sel.here | apply Sel.there))))):St c ops K rest e h:=qg (Vw.pk p<|hv hr) hc
theorem kG (hv:∀ t,Vw (k++t) (k'++t)) (hc:Xt c ex Q e (k'++hr)) (p:Pk h k hr:=by repeat (first | exact Pk.nil | (apply Pk.cons; (repeat (first | exact Sel.here | apply Sel.there))))):Xt c ex Q e h:=jC (Vw.pk p<|hv hr) hc
theorem Au {b n:Nat} {E:TypeId} {sz:Nat} {cells:List Value} (rows:List (List Value)) (hc:cells=rows.flatten) (h1:∀ r∈rows,r.length=sz) (hn:rows.length=n) (hm:n≤maxLen):∀ t,Vw ([pt b (cl cells E)]++t) ([VR (.slice (some ⟨b,0,none⟩) n n) E sz rows]++t):=λt=>vw_of rows hc h1 hn hm
theorem fu {L:SH}:∀ t,Vw (L++t) ([Res.star L]++t):=λt=>eO
end
end Go.Ck
namespace Go.Hr
open Go Go.RowKit Go.Ck
def strC (us:List Value) (n:Nm):Prop:=us=[sv n]
def parC (us:List Value) (p:Nm):Prop:=∃ a b c d e,us=[sv p,a,b,c,d,e]/\[sv p,a,b,c,d,e].all Value.oneCell'=true
def clsC (S:Res) (us:List Value) (x:Cls):Prop:=∃ d f pv c fa fc i,us=[sv x.name,d,f,pv,c,.slice fa x.feats fc,i]/\[sv x.name,d,f,pv,c,.slice fa x.feats fc,i].all Value.oneCell'=true/\Row S 6 parC pv x.parents
def l8 (S:Res) (v:Value) (l:Sys):Prop:=Row S 7 (clsC S) v l
def xu (S:Res) (v:Value) (xs:List Nm):Prop:=Row S 1 strC v xs
section
variable {S S':Res} (hr:∀ p u,Rd S p u->Rd S' p u)
include hr
theorem clsC.mono {us:List Value} {x:Cls} (h:clsC S us x):clsC S' us x:=let ⟨d,f,pv,c,fa,fc,i,h1,h0,h2⟩:=h; ⟨d,f,pv,c,fa,fc,i,h1,h0,h2.mono hr λ_ _ _ h=>h⟩
theorem l8.mono {v:Value} {l:Sys} (h:l8 S v l):l8 S' v l:=Row.mono h hr λ_ _ _ h=>clsC.mono hr h
theorem xu.mono {v:Value} {xs:List Nm} (h:xu S v xs):xu S' v xs:=Row.mono h hr λ_ _ _ h=>h
end
section
variable {S:Res} {v:Value} {l:Sys}
theorem tL (h:l8 S v l) {i:Nat} {x:Cls} (hi:l[i]? = some x):∃ b o cap d f pa pc c fa fc j,v = .slice (some ⟨b,o,none⟩) l.length cap/\Rds S b (o+i * 7) [sv x.name,d,f,.slice pa x.parents.length pc,c,.slice fa x.feats fc,j]/\Row S 6 parC (.slice pa x.parents.length pc) x.parents/\[sv x.name,d,f,.slice pa x.parents.length pc,c,.slice fa x.feats fc,j].all Value.oneCell'=true:=by
 obtain ⟨b,o,cap,us,h1,_,h3,d,f,pv,c,fa,fc,j,rfl,h0,h4⟩:=Row.at h hi
 obtain ⟨pa,pc,rfl,_⟩:=id h4
 exact ⟨b,o,cap,d,f,pa,pc,c,fa,fc,j,h1,h3,h4,h0⟩
theorem Ih {pv:Value} {ps:List Nm} (h:Row S 6 parC pv ps) {i:Nat} {p:Nm} (hi:ps[i]? = some p):∃ b o cap a c d e f,pv = .slice (some ⟨b,o,none⟩) ps.length cap/\Rds S b (o+i * 6) [sv p,a,c,d,e,f]/\[sv p,a,c,d,e,f].all Value.oneCell'=true:=by
 obtain ⟨b,o,cap,us,h1,_,h3,a,c,d,e,f,rfl,h0⟩:=Row.at h hi
 exact ⟨b,o,cap,a,c,d,e,f,h1,h3,h0⟩
theorem tN {xs:List Nm} (h:xu S v xs) {i:Nat} {x:Nm} (hi:xs[i]? = some x):∃ b o cap,v = .slice (some ⟨b,o,none⟩) xs.length cap/\Rd S ⟨b,o+i * 1,none⟩ (sv x):=by
 obtain ⟨b,o,cap,u,h1,h2,h3⟩:=Row.at1 h hi
 simp only [strC,List.cons.injEq,and_true] at h3
 subst h3
 exact ⟨b,o,cap,h1,h2⟩
end
/-! ## Names that are owned -/
def nC (n:Nm):List Value:=[sv n]
def NR (v:Value) (xs:List Nm):Res:=VR v 9 1 (xs.map nC)
theorem iL {v:Value} {xs:List Nm} (hok:∃ f,(NR v xs).ok f):xu (NR v xs) v xs :=
 Nc hok (by simp) (λ_ _ h=>h) λi us x h1 h2=>by
  rw [List.getElem?_map,h2] at h1
  simp only [Option.map_some,Option.some.injEq] at h1
  rw [<- h1]; rfl
def ixN (l:Sys) (c:Nm):Int:=match idx l c with | some i=>i | none => -1
theorem nZ {l:Sys} {c:Nm}:(∀ i,idx l c=some i->∃ x,l[i]? = some x/\find l c=some x)/\(idx l c=none->find l c=none):=by
 constructor
 ·intro i h
  obtain ⟨hi,h1,h2⟩:=List.findIdx?_eq_some_iff_getElem.1 h
  exact ⟨l[i],Zy hi,by
   unfold find
   rw [List.find?_eq_some_iff_getElem]
   exact ⟨h1,i,hi,Z,λj hj=>by simpa using h2 j hj⟩⟩
 ·intro h
  unfold idx at h
  rw [List.findIdx?_eq_none_iff] at h
  unfold find
  rw [List.find?_eq_none]
  intro x hx
  simpa using h x hx
end Go.Hr
namespace Go.Hr
open Go Go.Ck Go.Proofs Go.Proofs.YtknmacdbffgjgaaGreatDoor Fx
attribute [local irreducible] Go.Ck.Sub St Cd Xt Nx DrL LsW
section
variable {S:Res} {v:Value} {l:Sys}
def fewL (l:Sys):Bool:=l.all (λx=>decide (x.parents.length≤8)) && (decide (l.length≤10) || (decide (24<l.length) && decide (l.length≤40)))
end
end Go.Hr
namespace Go.Hr
open Go Go.Ck Go.Proofs Go.Proofs.Tryz Go.Proofs.YtknmacdbffgjgaaGreatDoor Fx
attribute [local irreducible] Go.Ck.Sub St Cd Xt Nx DrL LsW
def rT (m:List (Bs×Value)) (q:Cls×Nat):List (Bs×Value):=if (bK m q.1.name).isSome then m else eu m q.1.name (.int .i64 q.2)
def bH (l:Sys):List (Bs×Value):=l.zipIdx.foldl rT []
theorem Av {l:Sys} {i:Nat} (h:i<l.length):bH (l.take (i+1))=rT (bH (l.take i)) (l[i],i):=by
 unfold bH
 rw [List.take_succ_eq_append_getElem h,List.zipIdx_append,List.foldl_append]
 simp [List.length_take,Nat.min_eq_left (Nat.le_of_lt h)]
theorem tO (l:Sys) (c:Nm):bK (bH l) c=(idx l c).map λi=>.int .i64 i:=by
 have key : ∀ n, n ≤ l.length -> bK (bH<|l.take n) c = (idx (l.take n) c).map λi => .int .i64 i := by
  intro n
  induction n with
  | zero=>intro _; rfl
  | succ n ih =>
   intro hn
   rw [Av (by omega)]
   have ih:=ih<|by omega
   have hix:idx (l.take (n+1)) c=(idx (l.take n) c).or (if (l[n]).name=c then some n else none):=by
    unfold idx
    rw [List.take_succ_eq_append_getElem (by omega),List.findIdx?_append]
    congr 1
    by_cases h:(l[n]).name=c <;> simp [List.findIdx?_cons,h,List.length_take,Nat.min_eq_left (Nat.le_of_lt hn)]
   rw [hix]
   unfold rT
   by_cases hc:(l[n]).name=c
   ·simp only [hc,if_true]
    cases hi:idx (l.take n) c with
    | none =>
     rw [hi] at ih
     simp only [ih,Option.map_none,Option.isSome_none,Bool.false_eq_true,if_false]
     rw [nJ,if_pos rfl]; rfl
    | some j =>
     rw [hi] at ih
     simp only [ih,Option.map_some,Option.isSome_some,if_true]
     rfl
   ·simp only [hc,if_false,Option.or_none]
    split
    ·exact ih
    ·rw [nJ,if_neg (λe=>hc e.symm)]; exact ih
 have:=key l.length<|Nat.le_refl _
 rwa [List.take_length] at this
section
variable {S:Res} {v:Value} {l:Sys}
theorem Fz (hv:l8 S v l) (hl:l.length≤1099511627776):Ct prog 138 #[v] [S] λu h'=>∃ mb,u = .map (some mb)/\h'=[mps mb (bH l),S]:=by
 obtain ⟨a,cap,rfl,_⟩:=id hv
 refine aL (n:=31) func138 Z Z (len Z) λhr w0=>?_
 refine cQ<|sA Z<|sN<|nT<|cQ (eH (ltn Z) λb8=>?_)
 refine sA Z<|sK [0,2,3] Z<|cS<|cQ<|sM Z<|sV (aF Z underlying22)<|sM Z<|sK [2,3,9,10,11] Z<|cB<|aX (σ := Nat) (λi=>[(3,.map (some b8)),(9,.slice a l.length cap),(10,.int .i64 l.length),(11,.int .i64 (i:Nat))]) (λi=>mps b8 (bH<|l.take i)::S::hr) (λi=>i≤l.length) (λi=>l.length - i) 0 (Nat.zero_le _) ?_
 intro i hi
 refine cQ<|sV (aN Z Z)<|sN<|nT<|cS<|cC Z (λhd=>?_)<|λhd=>?_
 ·have hlt:i<l.length:=Zx
  obtain ⟨b,o,cap2,d,f,pa,pc,c2,fa,fc,j2,hv2,hrd,hP,hone⟩:=tL hv<|Zy hlt
  have hkt:=Av hlt
  unfold rT at hkt
  simp only at hkt
  refine cK<|xT<|cS<|cB<|cQ<|sM Z<|sV (vI (k:=i) (congrArg some hv2) Z ve Z hlt Z)<|sV (af Z gG Z hrd) ?_
  refine au nS λb5=>?_
  refine sA Z<|ai Z Z lY Z hone ?_
  refine sK [3,4,5,9,10,11] Z<|cQ<|sM Z<|sV (vF Z dN Z)<|sV (vY Z ld9) ?_
  refine sV (dR Z Z gJ nN slq) ?_
  refine sM Z<|sV (ag Z Z)<|sV (ag Z Z)<|sA Z<|sA Z<|sK [3,4,5,7,9,10,11] Z<|cQ<|sM Z<|sV (bg Z)<|sK [3,4,5,9,10,11,24] Z<|cC Z (λhq=>?_)<|λhq=>?_
  ·have hn:(bK (bH<|l.take i) (l[i]).name).isSome=false:=Zu
   rw [hn] at hkt
   simp only [Bool.false_eq_true,if_false] at hkt
   refine cR<|sM Z<|sV (vF Z dN Z)<|sV (vY Z ld9) ?_
   refine sM Z<|cz Z Z Z gJ slq ?_
   refine sN<|nK [3,9,10,11] Z<|ax<|xB<|xT<|cR<|sV (aI Z Z Za)<|sM Z<|sN<|nK [3,9,10,11] Z<|ax ?_
   rw [<- hkt]
   refine aJ (i+1) hlt (by show _ - _<_ - _; omega)
  ·have hn:(bK (bH<|l.take i) (l[i]).name).isSome=true:=Zu
   rw [hn] at hkt
   simp only [if_true] at hkt
   refine cK<|xB<|xT<|cR<|sV (aI Z Z Za)<|sM Z<|sN<|nK [3,9,10,11] Z<|ax ?_
   rw [<- hkt]
   refine aJ (i+1) hlt (by show _ - _<_ - _; omega)
 ·have hil:i=l.length:=by
   have:¬ i<l.length:=Zx
   omega
  subst hil
  rw [List.take_length]
  refine aB<|xE<|xE<|xY<|xT<|cQ<|sM Z<|sA Z<|sK [2] Z<|cT ?_
  exact aj Z ⟨b8,Z,Z⟩ sbq
end
theorem gq {P:Program} {e:Env} {h:SH} {o:Op} {ty:TypeId} {u u':Value} (hu:u=u') (hv:Vop P e h o ty u):Vop P e h o ty u':=hu ▸ hv
theorem Cw {c:Cx} {ex:Exit} {Q:Exit->Act->World->Prop} {e:Env} {h k:SH} (p:h.Perm k) (hx:Xt c ex Q e k):Xt c ex Q e h:=jC (λ_ hh=>Holds.perm p hh) hx
theorem Yc.frame {P:Program} {l:Nat} {args:Array Value} {hf:SH} {R:Value->SH->Prop} (h:Yc P l args hf R) (r:Res):Yc P l args (r::hf) (λv h'=>∃ k,h'=r::k/\R v k):=λhr w hh=>by
 have h1:Holds w (hf++(r::hr)):=hh.perm (List.perm_middle (l₁ := hf)).symm
 exact iW (λv w' ⟨k,hR,hH,hS⟩=>⟨r::k,⟨k,Z,hR⟩,hH.perm (List.perm_middle (l₁ := k)),hS⟩)<|h (r::hr) w h1
theorem Yc.mono {P:Program} {l:Nat} {args:Array Value} {hf:SH} {R R':Value->SH->Prop} (h:Yc P l args hf R) (hr:∀ v k,R v k->R' v k):Yc P l args hf R':=λx w hh=>iW (λv w' ⟨k,h1,h2,h3⟩=>⟨k,hr v k h1,h2,h3⟩)<|h x w hh
theorem qV (l:Sys) (c:Nm):(bK (bH l) c).isSome=isC l c:=by
 rw [tO]
 unfold isC
 cases h:idx l c with
 | none=>rw [(nZ).2 h]; rfl
 | some i=>obtain ⟨x,_,hx⟩:=nZ.1 i h; rw [hx]; rfl
theorem KR {f:Nm->Bool} {xs:List Nm} {i:Nat} (hi:i<xs.length) (h:f xs[i]=true):(xs.filter f)[((xs.take i).filter f).length]? = some xs[i]/\((xs.take (i+1)).filter f).length=((xs.take i).filter f).length+1:=by
 have h1:xs=xs.take i++xs[i]::xs.drop (i+1):=by rw [List.getElem_cons_drop,List.take_append_drop]
 constructor
 ·have h2:xs.filter f=(xs.take i).filter f++xs[i]::(xs.drop (i+1)).filter f:=by
   conv=>lhs; rw [h1]
   rw [List.filter_append,List.filter_cons_of_pos h]
  rw [h2,List.getElem?_append_right (Nat.le_refl _)]
  simp
 ·rw [List.take_succ_eq_append_getElem hi,List.filter_append,List.filter_cons_of_pos h]; simp
theorem FB {f:Nm->Bool} {xs:List Nm} {i:Nat} (hi:i<xs.length) (h:f xs[i]=false):((xs.take (i+1)).filter f).length=((xs.take i).filter f).length:=by
 rw [List.take_succ_eq_append_getElem hi,List.filter_append,List.filter_cons_of_neg (by rw [h]; decide)]; simp
def seqv (b1 b2:Nat):Value:=.func (.func 242) #[] #[.pointer (some ⟨b1,0,none⟩),.pointer (some ⟨b2,0,none⟩)]
section
variable {S:Res} {v:Value} {l:Sys}
theorem of_ct (hv:l8 S v l) (hl:l.length≤1099511627776):Ct prog 166 #[v] [S] λu h'=>∃ mb,u = .agg #[v,.map (some mb)]/\h'=[mps mb (bH l),S]:=by
 obtain ⟨a,cap,rfl,_⟩:=id hv
 refine aL (n:=7) func166 Z Z (len Z) λhr w0=>?_
 refine cQ (au sP λb2=>?_)
 refine sN<|nT<|cQ<|sM Z<|sM Z<|aH Z Z en138 Z (Fz hv hl) ?_
 rintro u h' ⟨mb,rfl,rfl⟩
 refine sV (aO (cells:=[.slice a l.length cap,.map (some mb)]) Z<|λ_=>Zz) ?_
 refine ai Z Z nM Z Z ?_
 refine sK [2] Z<|cT ?_
 exact bD (.cellN Z kF Z slq .nil) ⟨mb,Z,Z⟩ sbr
theorem jV {mb:Nat} {c:Nm} (hv:v.oneCell'=true):Ct prog 178 #[.agg #[v,.map (some mb)],sv c] [] λu h'=>∃ b1 b2,u=seqv b1 b2/\h'=[pt b1 (cl [v,.map (some mb)] 164),pt b2 (cl [sv c] 9)]:=by
 refine aL (n:=6) func178 Z Z (len Z) λhr w0=>?_
 refine cQ (aP Z Z λb2=>?_)
 refine aP Z Z λb3=>?_
 refine sA Z<|sK [2,3,4] Z<|cQ<|sV (bQ Z Z)<|sA Z<|sK [4] Z<|cT ?_
 exact aj Z ⟨b2,b3,Z,Z⟩ sbq
theorem FD {σ : Type} {b1 b2 mb yl : Nat} {c : Nm} (Inv : σ -> SH) (Φ : Nat -> σ -> Prop) (Stop : Nat -> SH -> Prop) (s0 : σ) (h0 : Φ 0 s0) (hv : l8 S v l) (hp : ∀ x ∈ l, x.parents.length ≤ 1099511627776)
  (hy:∀ (k:Nat) (s : σ) (p:Nm),(par l c)[k]? = some p -> Φ k s->Yc prog yl #[sv p] (S::mps mb (bH l)::Inv s) λu h'=>(u = .bool true/\∃ s',Φ (k+1) s'/\h'=S::mps mb (bH l)::Inv s')∨(u = .bool false/\∃ t,h'=S::mps mb (bH l)::t/\Stop k t)) :
  Ct prog 242 #[.func (.yield yl) #[] #[],.pointer (some ⟨b1,0,none⟩),.pointer (some ⟨b2,0,none⟩)] (pt b1 (cl [v,.map (some mb)] 164)::pt b2 (cl [sv c] 9)::S::mps mb (bH l)::Inv s0) λu h'=>u = .tuple #[] /\
   ((∃ s,Φ (par l c).length s/\h'=pt b1 (cl [v,.map (some mb)] 164)::pt b2 (cl [sv c] 9)::S::mps mb (bH l)::Inv s)∨∃ k t,Stop k t/\h'=pt b1 (cl [v,.map (some mb)] 164)::pt b2 (cl [sv c] 9)::S::mps mb (bH l)::t):=by
 obtain ⟨a,cap,rfl,_⟩:=id hv
 refine aL (n:=47) func242 Z Z (len Z) λhr w0=>?_
 refine cQ<|sV (vF Z D7 Z)<|sV (vY Z kE) ?_
 refine sV (vY Z ld9) ?_
 refine sV (dR Z Z gJ nN slq) ?_
 refine sM Z<|sV (ag Z Z)<|sV (ag Z Z)<|sA Z<|sA Z<|sK [0,1,4,5] Z<|cS<|cQ<|sM Z<|sV (bg Z)<|sK [0,1,4,18] Z<|cC Z (λhd=>?_)<|λhd=>?_
 ·have hx:isC l c=false:=by rw [<- qV]; simpa using hd
  have hpn:par l c=[]:=by
   cases h:par l c with
   | nil=>rfl
   | cons p t=>have:=sU (l:=l) (c:=c) (p:=p) (by rw [h]; simp); rw [hx] at this; cases this
  refine cT<|xR ?_
  exact aj Z ⟨Z,.inl ⟨s0,by rw [hpn]; exact h0,Z⟩⟩ sbq
 ·have hx:isC l c=true:=by rw [<- qV]; simpa using hd
  obtain ⟨k,hk⟩:∃ k,idx l c=some k:=by
   cases h:idx l c with
   | some k=>exact ⟨k,rfl⟩
   | none=>unfold isC at hx; rw [nZ.2 h] at hx; cases hx
  obtain ⟨x,hxi,hf⟩:=nZ.1 k hk
  have hkl:=(List.getElem?_eq_some_iff.1 hxi).1
  have hpar:par l c=x.parents.filter (isC l):=by unfold par pars; rw [hf]; rfl
  have hlk:bK (bH l) c=some (.int .i64 k):=by rw [tO,hk]; rfl
  have hpl:=hp x<|List.mem_of_getElem? hxi
  obtain ⟨b,o,cap2,d,f,pa,pc,c2,fa,fc,j2,hv2,hrd,hP,hone⟩:=tL hv hxi
  rw [hlk]
  refine cK<|xT<|cQ<|sV (vF Z D6 Z)<|sV (vY Z Af) ?_
  refine sM Z<|sV (vI (k:=k) (congrArg some hv2) Z ve Z hkl Z)<|sV (vF Z eY Z)<|sV (vY Z lZ) ?_
  refine sV (aF Z underlying39)<|sM Z<|sK [0,1,24,25,26] Z<|cB<|aX (σ := Nat × σ) (λq=>[(0,.func (.yield yl) #[] #[]),(1,.pointer (some ⟨b1,0,none⟩)),(24,.slice pa x.parents.length pc),(25,.int .i64 x.parents.length),(26,.int .i64 (q.1:Nat))]) (λq=>pt b1 (cl [.slice a l.length cap,.map (some mb)] 164)::pt b2 (cl [sv c] 9)::S::mps mb (bH l)::(Inv q.2++hr)) (λq=>q.1≤x.parents.length /\ Φ ((x.parents.take q.1).filter<|isC l).length q.2) (λq=>x.parents.length - q.1) (0,s0) ⟨Nat.zero_le _,h0⟩ ?_
  rintro ⟨i,s⟩ ⟨hi,hΦ⟩
  simp only at hi hΦ
  dsimp only
  refine cQ<|sV (aN Z Z)<|sN<|nT<|cS<|cC Z (λhd2=>?_)<|λhd2=>?_
  ·have hlt:i<x.parents.length:=Zw
   obtain ⟨pb,po,pcap,a1,c1,d1,e1,f1,hpv,hprd,hpone⟩:=Ih hP<|Zy hlt
   refine cK<|xT<|cS<|cB<|cQ<|sV (vI (k:=i) (congrArg some hpv) Z oL Z hlt Z)<|sV (af Z qp Z hprd) ?_
   refine au vD λb7=>?_
   refine ai Z Z r9 Z hpone ?_
   refine sK [0,1,7,24,25,26] Z<|cQ<|sV (vF Z D7 Z)<|sV (vY Z kE) ?_
   refine sV (vF Z gH Z)<|sV (vY Z ld9) ?_
   refine sV (dR Z Z gJ nN slq) ?_
   refine sM Z<|sV (ag Z Z)<|sV (ag Z Z)<|sA Z<|sA Z<|sK [0,1,7,9,24,25,26] Z<|cS ?_
   rw [qV]
   cases hc:isC l x.parents[i]
   ·refine cR<|sM Z<|sM Z<|aC Z Z Z ?_
    iterate 4 refine aC rfl rfl rfl ?_
    refine sV (vP Z Z)<|sK [0,1,24,25,26,45] Z<|aG Z ?_
    refine cK<|xB<|xT<|cR<|sV (aI Z Z Za)<|sM Z<|sN<|nK [0,1,24,25,26] Z<|ax ?_
    refine aJ (i+1,s) ⟨hlt,by rw [FB hlt hc]; exact hΦ⟩ (by show _ - _<_ - _; omega)
   ·obtain ⟨q1,q2⟩:=KR hlt hc
    refine cR<|sM Z<|sM Z<|sG Z Z (vM Z)<|sG Z Z (vF Z gH Z)<|sG Z Z (vY Z ld9) ?_
    refine uT (gd:=39) (.inr ⟨_,_,Z,Z,Z⟩) Z Z (hy _ s _ (by rw [hpar]; exact q1) hΦ) (Pk.of (hr:=pt b7 (cl [sv x.parents[i],a1,c1,d1,e1,f1] 88)::pt b1 (cl [.slice a l.length cap,.map (some mb)] 164)::pt b2 (cl [sv c] 9)::hr)<|by exact List.perm_append_comm_assoc [pt b7 (cl [sv x.parents[i],a1,c1,d1,e1,f1] 88),pt b1 (cl [.slice a l.length cap,.map (some mb)] 164),pt b2 (cl [sv c] 9)] (S::mps mb (bH l)::Inv s) hr) (ltn Z) ?_
    rintro u h' (⟨rfl,s',h1,rfl⟩ | ⟨rfl,t,rfl,h1⟩)
    ·refine sG Z Z (bg Z)<|sV (vQ Z Z)<|sK [0,1,24,25,26,45] Z<|aG Z ?_
     refine cK<|xB<|xT<|cR<|sV (aI Z Z Za)<|sM Z<|sN<|nK [0,1,24,25,26] Z<|ax<|Cw (k:=pt b7 (cl [sv x.parents[i],a1,c1,d1,e1,f1] 88)::pt b1 (cl [.slice a l.length cap,.map (some mb)] 164)::pt b2 (cl [sv c] 9)::S::mps mb (bH l)::(Inv s'++hr)) (by exact List.perm_append_comm_assoc (S::mps mb (bH l)::Inv s') [pt b7 (cl [sv x.parents[i],a1,c1,d1,e1,f1] 88),pt b1 (cl [.slice a l.length cap,.map (some mb)] 164),pt b2 (cl [sv c] 9)] hr) ?_
     refine aJ (i+1,s') ⟨hlt,by rw [q2]; exact h1⟩ (by show _ - _<_ - _; omega)
    ·refine sG Z Z (bg Z)<|sV (vQ Z Z)<|sK [0,1,24,25,26,45] Z<|aQ Z ?_
     refine cT<|xW<|xR<|xR<|xW<|Cw (k:=pt b7 (cl [sv x.parents[i],a1,c1,d1,e1,f1] 88)::pt b1 (cl [.slice a l.length cap,.map (some mb)] 164)::pt b2 (cl [sv c] 9)::S::mps mb (bH l)::(t++hr)) (by exact List.perm_append_comm_assoc (S::mps mb (bH l)::t) [pt b7 (cl [sv x.parents[i],a1,c1,d1,e1,f1] 88),pt b1 (cl [.slice a l.length cap,.map (some mb)] 164),pt b2 (cl [sv c] 9)] hr) ?_
     exact aj Z ⟨Z,.inr ⟨_,t,h1,Z⟩⟩ sbq
  ·have hil:i=x.parents.length:=by
    have:¬ i<x.parents.length:=Zw
    omega
   subst hil
   rw [List.take_length,<- hpar] at hΦ
   refine aB<|xE<|xE<|xY ?_
   exact z8 Z ⟨Z,.inl ⟨s,hΦ,Z⟩⟩ sbq
end
def Col (m:List (Bs×Value)) (o G:List Nm):Prop:=∀ x,bK m x=if x∈o then some (.int .i64 2) else if x∈G then some (.int .i64 1) else none
theorem Col.grey {m:List (Bs×Value)} {o G:List Nm} (h:Col m o G) {c:Nm} (hc:c ∉ o):Col (eu m c (.int .i64 1)) o (c::G):=λx=>by
 rw [nJ,h x]
 by_cases hx:x=c
 ·subst hx; rw [if_pos rfl,if_neg hc,if_pos (by simp)]
 ·rw [if_neg hx]; simp [hx]
theorem Col.black {m:List (Bs×Value)} {o G:List Nm} {c:Nm} (h:Col m o (c::G)):Col (eu m c (.int .i64 2)) (o++[c]) G:=λx=>by
 rw [nJ,h x]
 by_cases hx:x=c
 ·subst hx; rw [if_pos rfl,if_pos (by simp)]
 ·rw [if_neg hx]; simp [hx]
def visV (b5 b2 b7 b6:Nat):Value:=.func (.func 177) #[] #[.pointer (some ⟨b5,0,none⟩),.pointer (some ⟨b2,0,none⟩),.pointer (some ⟨b7,0,none⟩),.pointer (some ⟨b6,0,none⟩)]
def visS (S:Res) (v:Value) (l:Sys) (b5 b2 b7 b6 mb mc:Nat) (q:List (Bs×Value)×Value×List Nm):SH :=
 [pt b5 (cl [.map (some mc)] 162),pt b2 (cl [v,.map (some mb)] 164),pt b7 (cl [visV b5 b2 b7 b6] 256),mps mc q.1,pt b6 (cl [q.2.1] 40),NR q.2.1 q.2.2,S,mps mb (bH l)]
section
variable {S:Res} {v:Value} {l:Sys}
theorem Ng {b5 b2 b7 b6 mb mc : Nat} (hv : l8 S v l) (hp : ∀ x ∈ l, x.parents.length ≤ 1099511627776) (hl : l.length ≤ 1099511627776) (ha : gF l) : ∀ (f : Nat) (c : Nm) (m : List (Bs × Value)) (w : Value) (o G : List Nm), rk l c < f -> isC l c = true -> w.oneCell' = true -> Tp l o -> (∀ x ∈ o, isC l x = true) -> Col m o G -> (∀ g ∈ G, has l c g = false) ->
  Ct prog 177 #[sv c,.pointer (some ⟨b5,0,none⟩),.pointer (some ⟨b2,0,none⟩),.pointer (some ⟨b7,0,none⟩),.pointer (some ⟨b6,0,none⟩)] (visS S v l b5 b2 b7 b6 mb mc (m,w,o)) λu h'=>∃ m' w',u = .tuple #[]/\w'.oneCell'=true/\Col m' (vis l f o c) G/\h'=visS S v l b5 b2 b7 b6 mb mc (m',w',vis l f o c):=by
 obtain ⟨a,cap,rfl,_⟩:=id hv
 intro f
 induction f with
 | zero=>intro c m w o G h; omega
 | succ f ihf =>
  intro c m w o G hf hcC hw ho hoC hm hG
  have hlk:=hm c
  have hcG:c ∉ G:=λhg=>by have:=hG c hg; rw [nz] at this; cases this
  by_cases hc:c∈o
  ·rw [if_pos hc] at hlk
   have hvis:vis l (f+1) o c=o:=by rw [vis,if_pos Zl]
   rw [hvis]
   refine qH (n:=26) func177 Z Z (len Z) λhr w0=>?_
   unfold visS
   dsimp only
   refine cS<|cQ<|sV (vY Z kE) ?_
   refine sM Z<|sV (gq (show (bK m c).getD (.int .i64 0) = .int .i64 2 by rw [hlk]; rfl)<|bI Z Z gJ nN slq) ?_
   refine sV (bP Z Z)<|sK [0,1,2,3,4,10] Z<|aQ Z ?_
   refine cT<|xR ?_
   exact jO (bs:=[]) Z Z ⟨m,w,Z,hw,hm,Z⟩ sbq
  ·rw [if_neg hc, if_neg hcG] at hlk
   refine qH (n:=26) func177 Z Z (len Z) λhr w0=>?_
   unfold visS
   dsimp only
   refine cS<|cQ<|sV (vY Z kE) ?_
   refine sM Z<|sV (gq (show (bK m c).getD (.int .i64 0) = .int .i64 0 by rw [hlk]; rfl)<|bI Z Z gJ nN slq) ?_
   refine sV (bP Z Z)<|sK [0,1,2,3,4,10] Z<|aG Z ?_
   refine cK<|xT<|cQ<|sV (vY Z kE) ?_
   refine sM Z<|cz Z Z Z gJ slq ?_
   refine sK [0,1,2,3,4] Z<|cS<|cQ ?_
   have hvis:vis l (f+1) o c=(par l c).foldl (vis l f) o++[c]:=by rw [vis,if_neg Zl]
   have hm1:=hm.grey hc
   refine sV (af Z kF Z ah) ?_
   refine sM Z<|aH Z Z Fq Z (jV Z) ?_
   rintro u h' ⟨c1,c2,rfl,rfl⟩
   refine sK [0,1,3,4,15] Z<|cB ?_
   simp only [lC,lN]
   unfold seqv
   refine iY Z Fu λyl db rec hst hpe hps hasg hbo hkn2=>?_
   refine ⟨_,Ct.perm (FD (σ := List (Bs×Value)×Value×List Nm) (b1:=c1) (b2:=c2) (mb:=mb) (yl:=yl) (c:=c) (λq=>pt yl (.loop rec)::pt db (.deferred<|some [])::pt b5 (cl [.map (some mc)] 162)::pt b2 (cl [.slice a l.length cap,.map (some mb)] 164)::pt b7 (cl [visV b5 b2 b7 b6] 256)::mps mc q.1::pt b6 (cl [q.2.1] 40)::NR q.2.1 q.2.2::hr)
    (λk q=>q.2.1.oneCell'=true/\Col q.1 q.2.2 (c::G)/\q.2.2=((par l c).take k).foldl (vis l f) o/\Tp l q.2.2/\∀ x∈q.2.2,isC l x=true) (λ_ _=>False) (eu m c (.int .i64 1),w,o) ⟨hw,hm1,rfl,ho,hoC⟩ hv hp ?_) ?_,?_⟩
   ·rintro k ⟨m2, w2, o2⟩ p hk ⟨hw2, hm2, ho2, hT2, hC2⟩
    simp only at hw2 hm2 ho2 hT2 hC2
    have hpm:=List.mem_of_getElem? hk
    have hrk:=iC ha hpm
    refine Yc.perm (qF (n:=26) (rec:=rec) (args:=[sv p]) (hf:=pt db (.deferred<|some [])::pt b5 (cl [.map (some mc)] 162)::pt b2 (cl [.slice a l.length cap,.map (some mb)] 164)::pt b7 (cl [visV b5 b2 b7 b6] 256)::mps mc m2::pt b6 (cl [w2] 40)::NR w2 o2::S::mps mb (bH l)::hr) (by rw [hps]; rfl) hkn2 (by rw [hps]; decide) ?_) (by exact (by repeat (first | exact Pm.refl | refine Pm.cons slq ?_):Pm _ _).perm)
    intro hr2 w1
    rw [hasg,hps,hbo]
    simp only [lC,lN]
    have hih:=ihf p m2 w2 o2 (c::G) (by omega) (kK hpm) hw2 hT2 hC2 hm2 (λg hg=>by
     rcases List.mem_cons.1 hg with rfl | hg
     ·exact ha g p hpm
     ·cases hh:has l p g with
      | false=>rfl
      | true=>have:=hG g hg; rw [kW (rM hpm) hh] at this; cases this)
    obtain ⟨hs1,hs2⟩:=jP ha f p o2 (by omega) hT2
    unfold visS at hih
    dsimp only at hih
    refine cR<|sA Z<|sN<|nK [3,6] Z<|ax<|lu Z slq (by first | rfl | assumption) ?_
    refine cB<|cR<|sV (vY Z ld256) ?_
    refine sM Z<|aH Z Z en177 Z (hih) ?_
    rintro u h' ⟨m3,w3,rfl,hw3,hm3,rfl⟩
    simp only [lC,lN]
    refine sN<|nK [] Z<|ax<|xB<|dB slq (.inl ⟨Z,(m3,w3,vis l f o2 p),⟨hw3,hm3,?_,hs1,λx hx=>?_⟩,Z⟩) ?_
    ·obtain ⟨hkl,hke⟩:=List.getElem?_eq_some_iff.1 hk
     rw [List.take_succ_eq_append_getElem hkl,List.foldl_append,<- ho2,hke]; rfl
    ·rcases (hs2 x).1 hx with hx | hx
     ·exact hC2 x hx
     ·exact uL (kK hpm) hx
    ·rw [dC hst hpe]
     exact sbq
   ·exact (by repeat (first | exact Pm.refl | refine Pm.cons slq ?_):Pm _ _).perm
   ·rintro u h' ⟨rfl, (⟨⟨m2, w2, o2⟩, ⟨hw2, hm2, ho2, hT2, hC2⟩, rfl⟩ | ⟨_, _, hfalse, _⟩)⟩
    ·simp only at hw2 hm2 ho2 hT2 hC2
     refine ⟨rec,_,slq,(by rw [hst]; simp),?_⟩
     rw [hpe]
     dsimp only
     rw [List.take_length] at ho2
     have hlen:o2.length≤l.length:=by
      have:=aT (b:=nms l) hT2.nodup λx hx=>fD.1<|hC2 x hx
      simpa [nms] using this
     rw [hvis,<- ho2]
     refine xB<|xT<|cQ<|sV (vY Z kE) ?_
     refine sM Z<|cz Z Z Z gJ slq ?_
     refine sK [0,4] Z<|cR<|sV (vY Z fI) ?_
     refine sM Z (ak (cells:=[sv c]) Z underlying40 fH Z Z Zz (ltn Z) λb24=>?_)
     refine dZ [nC c] Z Z underlying40 fH Z (by decide) slq (by simp [nC]) Z (λj u2 hu2=>bT<|bV<|by simpa [nC] using hu2) (by simp [nC,Value.oneCell']) (by simp; omega) (by simp; omega) (ltn Z) λw3 hw3 _=>?_
     rw [show o2.map nC++[nC c]=(o2++[c]).map nC by simp]
     refine bf Z Z yU ?_
     refine sN<|nK [] Z<|ax ?_
     exact xt_endM (bs:=[db]) Z Z ⟨eu m2 c (.int .i64 2),w3,Z,hw3,hm2.black,Z⟩ sbq
    ·exact hfalse.elim
end
structure Fine (l:Sys):Prop where
 len:l.length≤900000
 few:∀ x∈l,x.parents.length≤1099511627776
theorem Right.fine {l:Sys} (h:Right l):Fine l:=⟨by have:=h.len; omega,λx hx=>by have:=h.few x hx; omega⟩
section
variable {S:Res} {v:Value} {l:Sys}
theorem FE {mb:Nat} (hv:l8 S v l) (hF:Fine l) (ha:gF l) {c:Nm} (hc:isC l c=true):Ct prog 103 #[.agg #[v,.map (some mb)],sv c] [S,mps mb (bH l)] λu h'=>u.oneCell'=true/\h'=[NR u (above l c),S,mps mb (bH l)]:=by
 obtain ⟨a,cap,rfl,_⟩:=id hv
 refine aL (n:=14) func103 Z Z (len Z) λhr w0=>?_
 refine dK (cO 9 1)<|cQ (aP Z Z λb2=>?_)
 refine sA Z<|sK [1,2,4] Z<|cQ (eH (ltn Z) λb8=>?_)
 refine au al162 λb5=>?_
 refine bf Z Z sz162 ?_
 refine sK [1,2,4,5] Z<|cQ (au al40 λb6=>?_)
 refine sN<|nT<|cQ (au al256 λb7=>?_)
 refine sN<|nT<|cQ<|sV (bQ Z Z)<|bf Z Z sz256 ?_
 refine sK [1,4,6,7] Z<|cQ<|sV (vY Z ld256) ?_
 refine sM rfl<|aH rfl rfl en177 rfl (Ng (b5:=b5) (b2:=b2) (b7:=b7) (b6:=b6) (mb:=mb) (mc:=b8) hv hF.few (Nat.le_trans hF.len<|by decide) ha (l.length+1) c [] (.slice none 0 0) [] [] (uM l c) hc rfl .nil (λx hx=>by cases hx) (λx=>rfl)<|λg hg=>by cases hg) ?_
 rintro u h' ⟨m',w',rfl,hw,hm,rfl⟩
 unfold visS
 simp only [lC,lN]
 refine sK [4,6] Z<|cQ<|sV (vY Z fI) ?_
 refine sA Z<|sK [4] Z<|cT ?_
 exact aj Z ⟨hw,Z⟩ sbq
def ixS (xs:List Nm) (c:Nm):Int:=match xs.findIdx? (· == c) with | some i=>i | none => -1
theorem ixS_has (xs:List Nm) (c:Nm):decide (0≤ixS xs c)=xs.contains c:=by
 unfold ixS
 cases h:xs.findIdx? (· == c) with
 | none =>
  rw [List.findIdx?_eq_none_iff] at h
  cases hc:xs.contains c with
  | false=>rfl
  | true =>
   rw [List.contains_iff_mem] at hc
   have:=h c hc
   simp at this
 | some i =>
  show decide (0≤(i:Int))=_
  obtain ⟨hi,h1,_⟩:=List.findIdx?_eq_some_iff_getElem.1 h
  have h1:xs[i]=c:=Zf
  rw [show xs.contains c=true by rw [List.contains_iff_mem,<- h1]; exact List.getElem_mem hi]
  exact decide_eq_true<|by omega
theorem Nh {xs:List Nm} (hv:xu S v xs) (c:Nm) (hl:xs.length≤1099511627776):Reads prog 104 #[v,sv c] [S] (.int .i64 (ixS xs c)):=by
 obtain ⟨a,cap,rfl,_⟩:=id hv
 refine aL (n:=19) func104 Z Z (len Z) λhr w0=>?_
 refine cQ<|sA Z<|sN<|nT<|cS<|cQ<|sM Z<|sV (aF Z underlying40)<|sM Z<|sK [0,1,4,7,8] Z<|cB<|aX (σ := Nat) (λi=>[(0,.slice a xs.length cap),(1,sv c),(7,.int .i64 xs.length),(8,.int .i64 (i:Nat))]) (λ_=>S::hr) (λi=>i≤xs.length/\∀ (j:Nat) (y:Nm),j<i->xs[j]? = some y->y≠c) (λi=>xs.length - i) 0 ⟨Nat.zero_le _,λj y hj=>by omega⟩ ?_
 rintro i ⟨hi,hne⟩
 refine cQ<|sV (aN Z Z)<|sN<|nT<|cS<|cC Z (λhd=>?_)<|λhd=>?_
 ·have hlt:i<xs.length:=Zx
  obtain ⟨b,o,cap2,hv2,hrd⟩:=tN hv<|Zy hlt
  refine cK<|xT<|cS<|cB<|cQ<|sM Z<|sA Z<|sK [0,1,5,7,8] Z<|cQ<|sM Z<|sM Z<|sM Z ?_
  refine sV (vI (k:=i) (congrArg some hv2) Z jm Z hlt Z)<|sV (vY Z ld9) ?_
  refine sV (iE Z Z)<|sK [0,1,5,7,8,16] Z<|cC Z (λhe=>?_)<|λhe=>?_
  ·have he:xs[i]=c:=by
    have:c=xs[i]:=Zj
    exact this.symm
   refine cQ<|sM Z<|sA Z<|sK [4] Z<|cT<|xW<|xR<|xR<|xW<|xR ?_
   rw [show ixS xs c=(i:Int) by
    unfold ixS
    rw [show xs.findIdx? (· == c)=some i from List.findIdx?_eq_some_iff_getElem.2 ⟨hlt,by simp [he],λj hj=>by simpa using hne j _ hj (Zy (Nat.lt_trans hj hlt))⟩]]
   exact aj Z ⟨Z,Z⟩ sbq
  ·have he:xs[i]≠c:=λh=>by rw [h] at he; simp at he
   refine cK<|xB<|xT<|cR<|sV (aI Z Z Za)<|sM Z<|sN<|nK [0,1,7,8] Z<|ax<|aJ (i+1) ⟨hlt,λj y hj hy=>?_⟩ (by show _ - _<_ - _; omega)
   by_cases hji:j=i
   ·subst hji; rw [Zy hlt] at hy; cases hy; exact he
   ·exact hne j y (by omega) hy
 ·refine aB<|xE<|xE<|xY<|xT<|cQ<|sA Z<|sK [4] Z<|cT ?_
  have hil:i=xs.length:=by
   have:¬ i<xs.length:=Zx
   omega
  rw [show ixS xs c = -1 by
   unfold ixS
   rw [show xs.findIdx? (· == c)=none from List.findIdx?_eq_none_iff.2 λx hx=>by
    obtain ⟨j,hj,rfl⟩:=List.getElem_of_mem hx
    simpa using hne j _ (by omega) (Zy hj)]]
  exact aj Z ⟨Z,Z⟩ sbq
theorem fw {xs:List Nm} (hv:xu S v xs) (c:Nm) (hl:xs.length≤1099511627776):Reads prog 42 #[v,sv c] [S] (.bool (xs.contains c)):=by
 refine aL (n:=9) func42 Z Z (len Z) λhr w0=>?_
 refine cQ<|sA Z<|sN<|nT<|cQ<|sM Z<|sM Z<|aY Z Z en104 Z (Nh hv c hl) ?_
 refine sV (nE Z Z)<|sA Z<|sK [4] Z<|cT ?_
 rw [ixS_has]
 exact aj Z ⟨Z,Z⟩ sbq
theorem oh (ha:gF l) {c:Nm} (hc:isC l c=true):(above l c).length≤l.length:=by
 obtain ⟨h1,h2⟩:=iM ha c
 have:=aT (b:=nms l) h1.nodup λx hx=>fD.1<|uL hc ((h2 x).1 hx)
 simpa [nms] using this
theorem KS (ha:gF l) (c a:Nm):(above l c).contains a=has l c a:=by
 rw [Bool.eq_iff_iff,List.contains_iff_mem]
 exact (iM ha c).2 a
theorem has_ct {mb:Nat} (hv:l8 S v l) (hF:Fine l) (ha:gF l) {c:Nm} (hc:isC l c=true) (x:Nm):Ct prog 92 #[.agg #[v,.map (some mb)],sv c,sv x] [S,mps mb (bH l)] λu h'=>u = .bool (has l c x)/\h'=[S,mps mb (bH l)]:=by
 obtain ⟨a,cap,rfl,_⟩:=id hv
 have hlen:=oh ha hc
 have hFl:=hF.len
 refine aL (n:=12) func92 Z Z (len Z) λhr w0=>?_
 refine cQ (aP Z Z λb3=>?_)
 refine sA Z<|sK [1,2,3,6] Z<|cQ<|sV (af Z kF Z ah) ?_
 refine sM Z<|aH Z Z en103 Z (FE hv hF ha hc) ?_
 rintro u h' ⟨hu,rfl⟩
 simp only [lC,lN]
 refine nY (r:=NR u<|above l c) slq λhok=>?_
 refine sM Z<|aY Z Z Ea Z (fw (iL hok) x<|by omega) ?_
 refine sA Z<|sK [6] Z<|cT ?_
 rw [KS ha]
 exact aj Z ⟨Z,Z⟩ sbq
end
section
variable {α : Type} (g : α -> Value)
def mvG (F:List (Nm × α)):List (Bs×Value):=F.map λp=>(p.1,g p.2)
theorem lh (F:List (Nm × α)) (k:Nm):bK (mvG g F) k=(dW F k).map g:=by
 induction F with
 | nil=>rfl
 | cons p t ih =>
  rw [dM]
  unfold mvG bK at ih ⊢
  rw [List.map_cons,List.find?_cons]
  by_cases h:p.1=k
  ·simp [h]
  ·have:(p.1 == k)=false:=by simp [h]
   simp only [this,if_neg h]
   exact ih
theorem om (F:List (Nm × α)) (k:Nm) (x : α):eu (mvG g F) k (g x)=mvG g (fT F k x):=by
 induction F with
 | nil=>rfl
 | cons p t ih =>
  unfold mvG at ih ⊢
  rw [List.map_cons]
  unfold eu fT
  by_cases h:p.1=k
  ·simp [h]
  ·rw [if_neg h,if_neg h,ih]; rfl
end
def nV (n:Nat):Value:=.int .i64 ((n:Int)+1)
section
variable {S:Res} {v:Value} {l:Sys}
theorem far_ct {mb:Nat} (hv:l8 S v l) (hF:Fine l) (to:Nm):Ct prog 271 #[.agg #[v,.map (some mb)],sv to] [S,mps mb (bH l)] λu h'=>∃ mf F,u = .map (some mf)/\h'=[mps mf (mvG nV F),S,mps mb (bH l)]/\∀ x,dW F x=gQ l to x:=by
 obtain ⟨a,cap,rfl,_⟩:=id hv
 have hFl:=hF.len
 refine qH (n:=62) func271 Z Z (len Z) λhr w0=>?_
 refine cQ (aP Z Z λb2=>?_)
 refine sA Z<|sK [1,2,4] Z<|cQ (eH (ltn Z) λb14=>?_)
 refine sM Z<|Ic Z Z Z gJ slq ?_
 refine sM Z (au al162 λb5=>?_)
 refine bf Z Z sz162 ?_
 refine sK [2,4,5] Z<|cS<|cQ (au al4 λb6=>?_)
 refine bf Z Z sz4 ?_
 refine sN<|nT<|cB ?_
 rw [show eu [] to (Value.int .i64 1)=mvG nV [(to,0)] from rfl]
 refine nI<|nH (σ := List (Nm×Nat)×Bool×Nat×List Nat) (λq=>q.2.2.2.map mk) (λq=>[(2,.pointer (some ⟨b2,0,none⟩)),(5,.pointer (some ⟨b5,0,none⟩)),(6,.pointer (some ⟨q.2.2.1,0,none⟩))]) (λq=>Res.star (marks q.2.2.2)::pt q.2.2.1 (cl [.bool q.2.1] 4)::pt b5 (cl [.map (some b14)] 162)::mps b14 (mvG nV q.1)::pt b2 (cl [.slice a l.length cap,.map (some mb)] 164)::S::mps mb (bH l)::hr) (λq=>FarI l to q.1/\(q.2.1=false->∀ c p,p∈par l c->Rel q.1 c p)) (λq=>if q.2.1 then pot l q.1+1 else 0) ([(to,0)],true,b6,[]) ⟨FarI.init l to,λh=>by cases h⟩ rfl ⟨rfl,rfl,rfl,trivial⟩ sbq ?_
 rintro ⟨F0,fl0,b60,bs⟩ ⟨hI0,hdone⟩
 simp only at hI0 hdone
 dsimp only
 refine cS<|cQ<|sV (vY Z ld4) ?_
 refine sN<|nT<|cC Z (λhf=>?_)<|λhf=>?_
 ·refine cK<|xT<|cS<|cB<|cQ<|bf Z Z sz4 ?_
  refine sK [2,5,6] Z<|cQ<|sV (vF Z D6 Z)<|sV (vY Z Af) ?_
  refine sV (aF rfl underlying22)<|sM rfl<|sK [2,5,6,19,20,21] rfl<|cB<|nH (σ := Nat×List (Nm×Nat)×Bool×List Nat) (λq=>q.2.2.2.map mk) (λq=>[(2,.pointer (some ⟨b2,0,none⟩)),(5,.pointer (some ⟨b5,0,none⟩)),(6,.pointer (some ⟨b60,0,none⟩)),(19,.slice a l.length cap),(20,.int .i64 l.length),(21,.int .i64 (q.1:Nat))]) (λq=>Res.star (marks q.2.2.2)::pt b60 (cl [.bool q.2.2.1] 4)::pt b5 (cl [.map (some b14)] 162)::mps b14 (mvG nV q.2.1)::pt b2 (cl [.slice a l.length cap,.map (some mb)] 164)::S::mps mb (bH l)::hr) (λq=>q.1≤l.length/\FarI l to q.2.1/\(q.2.2.1=true->pot l q.2.1<pot l F0)/\(q.2.2.1=false->q.2.1=F0/\∀ (j:Nat) (y:Cls),j<q.1->l[j]? = some y->∀ p∈par l y.name,Rel F0 y.name p)) (λq=>l.length - q.1) (0,F0,false,bs) ⟨Nat.zero_le _,hI0,λh=>(by cases h),λ_=>⟨rfl,λj y hj=>by omega⟩⟩ rfl ⟨rfl,rfl,rfl,rfl,rfl,rfl,trivial⟩ sbq ?_
  rintro ⟨i,F,fl,bs2⟩ ⟨hi,hI,hpot,hsame⟩
  simp only at hi hI hpot hsame
  dsimp only
  refine cQ<|sV (aN Z Z)<|sN<|nT<|cS<|cC Z (λhd=>?_)<|λhd=>?_
  ·have hlt:i<l.length:=Zx
   obtain ⟨b,o,cap2,d,f,pa,pc,c2,fa,fc,j2,hv2,hrd,hP,hone⟩:=tL hv<|Zy hlt
   have hname:(l[i]).name=(l[i]).name:=rfl
   generalize hcn:(l[i]).name=cn at *
   refine cK<|xT<|cS<|cB<|cQ<|sV (vI (k:=i) (congrArg some hv2) Z ve Z hlt Z)<|sV (af Z gG Z hrd) ?_
   refine au nS λb8=>?_
   refine ai Z Z lY Z hone ?_
   refine sK [2,5,6,8,19,20,21] Z<|cQ<|sV (af Z kF Z ah) ?_
   refine sV (vF Z dN Z)<|sV (vY Z ld9) ?_
   refine aH Z Z Fq Z (jV Z) ?_
   rintro u h' ⟨n1,n2,rfl,rfl⟩
   refine sK [2,5,6,8,19,20,21,28] Z<|cB ?_
   simp only [lC,lN]
   unfold seqv
   refine iY Z Fu λyl db rec hst hpe hps hasg hbo hkn2=>?_
   refine ⟨_,Ct.perm (FD (σ := List (Nm×Nat)×Bool) (b1:=n1) (b2:=n2) (mb:=mb) (yl:=yl) (c:=cn) (λq=>pt yl (.loop rec)::pt db (.deferred<|some [])::pt b8 (cl [sv cn,d,f,.slice pa l[i].parents.length pc,c2,.slice fa l[i].feats fc,j2] 44)::Res.star (marks bs2)::pt b60 (cl [.bool q.2] 4)::pt b5 (cl [.map (some b14)] 162)::mps b14 (mvG nV q.1)::pt b2 (cl [.slice a l.length cap,.map (some mb)] 164)::hr)
    (λk q=>FarI l to q.1/\(q.2=true->pot l q.1<pot l F0)/\(q.2=false->q.1=F0/\(∀ (j:Nat) (y:Cls),j<i->l[j]? = some y->∀ p∈par l y.name,Rel F0 y.name p)/\∀ p∈(par l cn).take k,Rel F0 cn p)) (λ_ _=>False) (F,fl) ⟨hI,hpot,λh=>⟨(hsame h).1,(hsame h).2,λp hp=>by simp at hp⟩⟩ hv hF.few ?_) ?_,?_⟩
   ·rintro k ⟨F2, fl2⟩ p hk ⟨hI2, hpot2, hsame2⟩
    simp only at hI2 hpot2 hsame2
    have hpm:=List.mem_of_getElem? hk
    have htk:∀ q,q∈(par l cn).take (k+1)->q∈(par l cn).take k∨q=p:=λq hq=>by
     obtain ⟨hkl,hke⟩:=List.getElem?_eq_some_iff.1 hk
     rw [List.take_succ_eq_append_getElem hkl,hke] at hq
     simpa using hq
    refine Yc.perm (qF (n:=62) (rec:=rec) (args:=[sv p]) (hf:=pt db (.deferred<|some [])::pt b8 (cl [sv cn,d,f,.slice pa l[i].parents.length pc,c2,.slice fa l[i].feats fc,j2] 44)::Res.star (marks bs2)::pt b60 (cl [.bool fl2] 4)::pt b5 (cl [.map (some b14)] 162)::mps b14 (mvG nV F2)::pt b2 (cl [.slice a l.length cap,.map (some mb)] 164)::S::mps mb (bH l)::hr) (by rw [hps]; rfl) hkn2 (by rw [hps]; decide) ?_) (by exact (by repeat (first | exact Pm.refl | refine Pm.cons slq ?_):Pm _ _).perm)
    intro hr2 w1
    rw [hasg,hps,hbo]
    simp only [lC,lN]
    refine cR<|sA Z<|sN<|nK [5,6,8,9] Z<|ax<|lu Z slq (by first | rfl | assumption) ?_
    refine cB<|cQ<|sV (vY Z kE) ?_
    refine sM Z ?_
    cases hp1:dW F2 p
    ·refine sV (gq (show Value.tuple #[(bK (mvG nV F2) p).getD (.int .i64 0),.bool (bK (mvG nV F2) p).isSome] = .tuple #[.int .i64 0,.bool false] by rw [lh,hp1]; rfl)<|dR Z Z gJ nN slq) ?_
     refine sM Z<|sV (ag Z Z)<|sV (ag Z Z)<|sA Z<|sA Z<|sK [5,6,8,10,11] Z<|cQ<|sV (vY Z kE) ?_
     refine sV (vF Z dN Z)<|sV (vY Z ld9) ?_
     refine sV (dR Z Z gJ nN slq) ?_
     refine sM Z<|sV (ag Z Z)<|sV (ag Z Z)<|sA Z<|sA Z<|sK [5,6,8,10,11,12,13] Z<|cQ<|sM Z<|sM Z<|aC Z Z Z ?_
     iterate 2 refine aC rfl rfl rfl ?_
     refine bS Z Z ?_
     refine bS Z Z ?_
     refine bS Z Z ?_
     refine bS Z Z ?_
     refine aC Z Z Z ?_
     refine sV (vP Z Z)<|sK [5,6,8,10,53] Z<|aG Z ?_
     refine cK<|xB<|dB slq (.inl ⟨Z,(F2,fl2),⟨hI2,hpot2,λh=>⟨(hsame2 h).1,(hsame2 h).2.1,λq hq=>?_⟩⟩,Z⟩) ?_
     ·obtain ⟨he,_,h3⟩:=hsame2 h
      rcases htk q hq with hq | rfl
      ·exact h3 q hq
      ·intro n hn
       rw [<- he,hp1] at hn; cases hn
     ·rw [dC hst hpe]
      exact sbq
    ·rename_i n
     have hn1:=hI2.walk p n hp1
     have hn2:=hI2.len
     refine sV (gq (show Value.tuple #[(bK (mvG nV F2) p).getD (.int .i64 0),.bool (bK (mvG nV F2) p).isSome] = .tuple #[.int .i64 ((n:Int)+1),.bool true] by rw [lh,hp1]; rfl)<|dR Z Z gJ nN slq) ?_
     refine sM Z<|sV (ag Z Z)<|sV (ag Z Z)<|sA Z<|sA Z<|sK [5,6,8,10,11] Z<|cQ<|sV (vY Z kE) ?_
     refine sV (vF Z dN Z)<|sV (vY Z ld9) ?_
     cases hc1:dW F2 cn
     ·refine sV (gq (show Value.tuple #[(bK (mvG nV F2) cn).getD (.int .i64 0),.bool (bK (mvG nV F2) cn).isSome] = .tuple #[.int .i64 0,.bool false] by rw [lh,hc1]; rfl)<|dR Z Z gJ nN slq) ?_
      refine sM Z<|sV (ag Z Z)<|sV (ag Z Z)<|sA Z<|sA Z<|sK [5,6,8,10,11,12,13] Z<|cQ<|sM Z<|sM Z<|sG Z Z (vM Z)<|sG Z Z (bg Z)<|sG Z Z (vM Z)<|aC Z Z Z ?_
      iterate 3 refine aC rfl rfl rfl ?_
      refine sG Z Z (vQ Z Z)<|sV (vQ Z Z)<|sK [5,6,8,10,53] Z<|aQ Z ?_
      refine cR<|sV (vY Z kE) ?_
      refine sV (vF Z dN Z)<|sV (vY Z ld9) ?_
      refine sM Z<|sV (aI Z Z Za)<|cz Z Z Z gJ slq ?_
      refine bf Z Z sz4 ?_
      refine sN<|nK [] Z<|ax<|xB ?_
      rw [show eu (mvG nV F2) cn (.int .i64 ((n:Int)+1+1))=mvG nV (fT F2 cn (n+1)) from om nV F2 cn (n+1)]
      obtain ⟨hI3,hpot3⟩:=hI2.better hpm hp1<|λn' h=>by rw [hc1] at h; cases h
      refine dB slq (.inl ⟨rfl,(fT F2 cn (n+1),true),⟨hI3,λ_=>?_,λh=>by cases h⟩,rfl⟩) ?_
      ·show pot l (fT F2 cn (n+1))<pot l F0
       cases hfl:fl2 with
       | true=>have:=hpot2 hfl; omega
       | false=>exact Nat.lt_of_lt_of_eq hpot3 (congrArg (pot l) (hsame2 hfl).1)
      ·rw [dC hst hpe]
       exact sbq
     ·rename_i n'
      have hn3:=hI2.walk cn n' hc1
      refine sV (gq (show Value.tuple #[(bK (mvG nV F2) cn).getD (.int .i64 0),.bool (bK (mvG nV F2) cn).isSome] = .tuple #[.int .i64 ((n':Int)+1),.bool true] by rw [lh,hc1]; rfl)<|dR Z Z gJ nN slq) ?_
      refine sM Z<|sV (ag Z Z)<|sV (ag Z Z)<|sA Z<|sA Z<|sK [5,6,8,10,11,12,13] Z<|cQ<|sM Z<|sM Z<|sG Z Z (vM Z)<|sG Z Z (bg Z)<|sG Z Z (vM Z)<|sG Z Z (vM Z) ?_
      refine sG Z Z (vM Z)<|sG Z Z (aI Z Z Za)<|sG Z Z (cu Z Z)<|sG Z Z (vP Z Z)<|sV (vQ Z Z)<|sK [5,6,8,10,53] Z<|cC Z (λhb=>?_)<|λhb=>?_
      ·have hb:n+1<n':=by
        have:(n:Int)+1+1<(n':Int)+1:=by simpa using hb
        omega
       refine cR<|sV (vY Z kE) ?_
       refine sV (vF Z dN Z)<|sV (vY Z ld9) ?_
       refine sM Z<|sV (aI Z Z Za)<|cz Z Z Z gJ slq ?_
       refine bf Z Z sz4 ?_
       refine sN<|nK [] Z<|ax<|xB ?_
       rw [show eu (mvG nV F2) cn (.int .i64 ((n:Int)+1+1))=mvG nV (fT F2 cn (n+1)) from om nV F2 cn (n+1)]
       obtain ⟨hI3,hpot3⟩:=hI2.better hpm hp1<|λm h=>by rw [hc1] at h; cases h; exact hb
       refine dB slq (.inl ⟨rfl,(fT F2 cn (n+1),true),⟨hI3,λ_=>?_,λh=>by cases h⟩,rfl⟩) ?_
       ·show pot l (fT F2 cn (n+1))<pot l F0
        cases hfl:fl2 with
        | true=>have:=hpot2 hfl; omega
        | false=>exact Nat.lt_of_lt_of_eq hpot3 (congrArg (pot l) (hsame2 hfl).1)
       ·rw [dC hst hpe]
        exact sbq
      ·have hb:n'≤n+1:=by
        have:¬ (n:Int)+1+1<(n':Int)+1:=by simpa using hb
        omega
       refine cK<|xB<|dB slq (.inl ⟨Z,(F2,fl2),⟨hI2,hpot2,λh=>⟨(hsame2 h).1,(hsame2 h).2.1,λq hq=>?_⟩⟩,Z⟩) ?_
       ·obtain ⟨he,_,h3⟩:=hsame2 h
        rcases htk q hq with hq | rfl
        ·exact h3 q hq
        ·intro m hm
         rw [<- he,hp1] at hm
         cases hm
         exact ⟨n',by rw [<- he]; exact hc1,hb⟩
       ·rw [dC hst hpe]
        exact sbq
   ·exact (by repeat (first | exact Pm.refl | refine Pm.cons slq ?_):Pm _ _).perm
   ·rintro u h' ⟨rfl, (⟨⟨F2, fl2⟩, ⟨hI2, hpot2, hsame2⟩, rfl⟩ | ⟨_, _, hfalse, _⟩)⟩
    ·simp only at hI2 hpot2 hsame2
     rw [List.take_length] at hsame2
     refine ⟨rec,_,slq,(by rw [hst]; simp),?_⟩
     rw [hpe]
     dsimp only
     refine xB<|xB<|xT<|cR<|sV (aI Z Z Za)<|sM Z<|sN<|nK [2,5,6,19,20,21] Z<|ax<|jl slq slq ?_
     refine kY (i+1,F2,fl2,db::bs2) ⟨hlt,hI2,hpot2,λh=>⟨(hsame2 h).1,λj y hj hy=>?_⟩⟩ (by show _ - _<_ - _; omega) Z ⟨Z,Z,Z,Z,Z,Z,trivial⟩ sbq
     obtain ⟨_,h2,h3⟩:=hsame2 h
     by_cases hji:j=i
     ·subst hji
      rw [Zy hlt] at hy; cases hy
      rw [hcn]; exact h3
     ·exact h2 j y (by omega) hy
    ·exact hfalse.elim
  ·have hil:i=l.length:=by
    have:¬ i<l.length:=Zx
    omega
   subst hil
   refine aB<|xE<|xE<|xY<|xB<|xT<|cQ<|sV (vY Z ld4) ?_
   refine sK [2,5,6,60] Z<|cR (au al4 λb6=>?_)
   refine bf Z Z sz4 ?_
   refine sN<|nK [2,5,6] Z<|ax ?_
   refine kY (F,fl,b6,bs2) ⟨hI,λh c p hp=>?_⟩ (by
    show (if fl=true then pot l F+1 else 0)<(if fl0=true then pot l F0+1 else 0)
    rw [if_pos hf]
    split
    ·rename_i h; have:=hpot h; omega
    ·omega) rfl ⟨rfl,rfl,rfl,trivial⟩ sbq
   obtain ⟨rfl,h2⟩:=hsame h
   have hc:=sU hp
   obtain ⟨j,hj⟩:∃ j,idx l c=some j:=by
    cases hh:idx l c with
    | some j=>exact ⟨j,rfl⟩
    | none=>unfold isC at hc; rw [nZ.2 hh] at hc; cases hc
   obtain ⟨x,hx,hfx⟩:=nZ.1 j hj
   have hn:=(rJ hfx).1
   have:=h2 j x (List.getElem?_eq_some_iff.1 hx).1 hx p (by rw [hn]; exact hp)
   rwa [hn] at this
 ·have hf2:fl0=false:=by simpa using hf
  refine aB<|xE<|xE<|xY<|xT<|cQ<|sV (vY Z kE) ?_
  refine sA Z<|sK [4] Z<|cT<|DL (bs:=bs) Z Z ⟨b14,F0,Z,Z,hI0.done<|hdone hf2⟩ sbq
end
def cmpI (a b:Int):Int:=if a<b then -1 else if b<a then 1 else 0
def qW (a b:Nm):Int:=if lt a b=true then -1 else if lt b a=true then 1 else 0
def cmpL:List Nm->List Nm->Int
 | [],[]=>0
 | [],_::_ => -1
 | _::_,[]=>1
 | a::x,b::y=>if qW a b≠0 then qW a b else cmpL x y
theorem J9 : ∀ a b : List Nm, decide (cmpL a b < 0) = BU a b
 | [],[]=>rfl
 | [],_::_=>rfl
 | _::_,[]=>rfl
 | a :: x, b :: y => by
  unfold cmpL BU
  have ih:=J9 x y
  unfold qW
  rcases dU a b with h | h | h
  ·simp [h]
  ·subst h; rw [lt_irrefl]; simp [ih]
  ·have h2:=iF h
   rw [h2,h]
   have:(a == b)=false:=by
    cases hab:a == b with
    | false=>rfl
    | true=>rw [show a=b by simpa using hab,lt_irrefl] at h; cases h
   simp [this]
section
variable {S S':Res} {v v':Value}
theorem Ka (a:Int):Reads prog 272 #[.int .i64 a] [] (.bool false):=by
 refine aL (n:=6) func272 Z Z (len Z) λhr w0=>?_
 refine cQ<|sA Z<|sN<|nT<|cQ<|sM Z<|sM Z<|sV (bP Z Z)<|sA Z<|sK [2] Z<|cT ?_
 rw [show (a != a)=false by simp]
 exact aj Z ⟨Z,Z⟩ sbq
theorem Kb (a:Nm):Reads prog 203 #[sv a] [] (.bool false):=by
 refine aL (n:=6) func203 Z Z (len Z) λhr w0=>?_
 refine cQ<|sA Z<|sN<|nT<|cQ<|sM Z<|sM Z<|sV (wV Z Z)<|sA Z<|sK [2] Z<|cT ?_
 rw [show (!(a == a))=false by simp]
 exact aj Z ⟨Z,Z⟩ sbq
theorem cmpI_ct (a b:Int):Reads prog 228 #[.int .i64 a,.int .i64 b] [] (.int .i64 (cmpI a b)):=by
 unfold cmpI
 refine aL (n:=20) func228 Z Z (len Z) λhr w0=>?_
 refine cQ<|sA Z<|sN<|nT<|cQ<|sM Z<|aY Z Z en272 Z (Ka a) ?_
 refine sA Z<|sK [0,1,4,5] Z<|cQ<|sM Z<|aY Z Z en272 Z (Ka b) ?_
 refine sA Z<|sK [0,1,4,5,6] Z<|cS<|cQ<|sM Z<|sK [0,1,4,6,11] Z<|aG Z ?_
 refine cK<|xT<|cS<|cQ<|sM Z<|sK [0,1,4,13] Z<|aG Z ?_
 refine cK<|xT<|cS<|cQ<|sM Z<|sM Z<|sV (aN Z Z)<|sK [0,1,4,16] Z<|cC Z (λh1=>?_)<|λh1=>?_
 ·refine cQ<|sA Z<|sK [4] Z<|cT<|xR ?_
  rw [if_pos Zf]
  exact aj Z ⟨Z,Z⟩ sbq
 ·rw [if_neg Zf]
  refine cK<|xT<|cS<|cQ<|sM Z<|sM Z<|sV (cu Z Z)<|sK [4,19] Z<|cC Z (λh2=>?_)<|λh2=>?_
  ·refine cQ<|sA Z<|sK [4] Z<|cT<|xR ?_
   rw [if_pos Zp]
   exact aj Z ⟨Z,Z⟩ sbq
  ·refine cK<|xT<|cQ<|sA Z<|sK [4] Z<|cT ?_
   rw [if_neg Zp]
   exact aj Z ⟨Z,Z⟩ sbq
theorem zw (a b:Nm):Reads prog 126 #[sv a,sv b] [] (.int .i64 (qW a b)):=by
 unfold qW
 refine aL (n:=20) func126 Z Z (len Z) λhr w0=>?_
 refine cQ<|sA Z<|sN<|nT<|cQ<|sM Z<|aY Z Z en203 Z (Kb a) ?_
 refine sA Z<|sK [0,1,4,5] Z<|cQ<|sM Z<|aY Z Z en203 Z (Kb b) ?_
 refine sA Z<|sK [0,1,4,5,6] Z<|cS<|cQ<|sM Z<|sK [0,1,4,6,11] Z<|aG Z ?_
 refine cK<|xT<|cS<|cQ<|sM Z<|sK [0,1,4,13] Z<|aG Z ?_
 refine cK<|xT<|cS<|cQ<|sM Z<|sM Z<|sV (v_slss Z Z)<|sK [0,1,4,16] Z<|cC Z (λh1=>?_)<|λh1=>?_
 ·refine cQ<|sA Z<|sK [4] Z<|cT<|xR ?_
  rw [if_pos h1]
  exact aj Z ⟨Z,Z⟩ sbq
 ·rw [if_neg (show ¬ lt a b=true by rw [show lt a b=false from h1]; decide)]
  refine cK<|xT<|cS<|cQ<|sM Z<|sM Z<|sV (v_sgtr Z Z)<|sK [4,19] Z<|cC Z (λh2=>?_)<|λh2=>?_
  ·refine cQ<|sA Z<|sK [4] Z<|cT<|xR ?_
   rw [if_pos (by
    rw [Bool.not_eq_true',Bool.or_eq_false_iff] at h2
    rcases dU a b with h | h | h
    ·exact absurd h (by rw [show lt a b=false from h2.1]; decide)
    ·rw [h] at h2; simp at h2
    ·exact h)]
   exact aj Z ⟨Z,Z⟩ sbq
  ·refine cK<|xT<|cQ<|sA Z<|sK [4] Z<|cT ?_
   rw [if_neg (by
    rw [Bool.not_eq_false',Bool.or_eq_true] at h2
    rcases h2 with h2 | h2
    ·rw [iF h2]; decide
    ·rw [show a=b by simpa using h2,lt_irrefl]; decide)]
   exact aj Z ⟨Z,Z⟩ sbq
theorem cmpL_ct {xs ys:List Nm} (hv:xu S v xs) (hv':xu S' v' ys) (hl:xs.length≤1099511627776) (hl':ys.length≤1099511627776):Reads prog 229 #[v,v'] [S,S'] (.int .i64 (cmpL xs ys)):=by
 obtain ⟨a,cap,rfl,_⟩:=id hv
 obtain ⟨a',cap',rfl,_⟩:=id hv'
 refine aL (n:=36) func229 Z Z (len Z) λhr w0=>?_
 refine cQ<|sA Z<|sN<|nT<|cS<|cQ<|sM Z<|sV (aF Z underlying40)<|sM Z<|sN<|nT<|cB<|aX (σ := Nat) (λi=>[(0,.slice a xs.length cap),(1,.slice a' ys.length cap'),(9,.slice a xs.length cap),(10,.int .i64 xs.length),(11,.int .i64 (i:Nat))]) (λ_=>S::S'::hr) (λi=>i≤xs.length/\i≤ys.length/\cmpL xs ys=cmpL (xs.drop i) (ys.drop i)) (λi=>xs.length - i) 0 ⟨Nat.zero_le _,Nat.zero_le _,Z⟩ ?_
 rintro i ⟨hi,hi',hc⟩
 refine cQ<|sV (aN Z Z)<|sN<|nT<|cS<|cC Z (λhd=>?_)<|λhd=>?_
 ·have hlt:i<xs.length:=Zx
  obtain ⟨b,o,cap2,hv2,hrd⟩:=tN hv<|Zy hlt
  have hx:xs.drop i=xs[i]::xs.drop (i+1):=(List.getElem_cons_drop hlt).symm
  refine cK<|xT<|cS<|cB<|cQ<|sM Z<|sV (vI (k:=i) (congrArg some hv2) Z jm Z hlt Z)<|sV (vY Z ld9) ?_
  refine sA Z<|sA Z<|sK [0,1,5,6,9,10,11] Z<|cS<|cQ<|sM Z<|sM Z<|sV (aF Z underlying40)<|sV (nE Z Z)<|sK [0,1,5,6,9,10,11,19] Z<|cC Z (λhe=>?_)<|λhe=>?_
  ·have he:ys.length≤i:=by
    have:(ys.length:Int)≤i:=Zj
    omega
   have hy:ys.drop i=[]:=List.drop_eq_nil_of_le he
   refine cQ<|sA Z<|sK [4] Z<|cT<|xR<|xW<|xR<|xR<|xW<|xR ?_
   rw [hc,hx,hy]
   exact aj Z ⟨Z,Z⟩ sbq
  ·have he:i<ys.length:=by
    have:¬ (ys.length:Int)≤i:=Zj
    omega
   obtain ⟨b',o',cap2',hv2',hrd'⟩:=tN hv'<|Zy he
   have hy:ys.drop i=ys[i]::ys.drop (i+1):=(List.getElem_cons_drop he).symm
   refine cK<|xT<|cQ<|sM Z<|sM Z<|sV (vI (k:=i) (congrArg some hv2') Z jm Z he Z)<|sV (vY Z ld9) ?_
   refine sA Z<|sK [0,1,6,7,9,10,11] Z<|cQ<|sM Z<|sM Z<|aY Z Z J4 Z (zw xs[i] ys[i]) ?_
   refine sA Z<|sK [0,1,8,9,10,11] Z<|cQ<|sM Z<|sV (bP Z Z)<|sK [0,1,8,9,10,11,28] Z<|cC Z (λhn=>?_)<|λhn=>?_
   ·have hn:qW xs[i] ys[i]≠0:=Zk
    refine cQ<|sM Z<|sA Z<|sK [4] Z<|cT<|xW<|xR<|xR<|xW<|xR ?_
    rw [hc,hx,hy,cmpL,if_pos hn]
    exact aj Z ⟨Z,Z⟩ sbq
   ·have hn:qW xs[i] ys[i]=0:=Zk
    refine cK<|xB<|xT<|cR<|sV (aI Z Z Za)<|sM Z<|sN<|nK [0,1,9,10,11] Z<|ax ?_
    refine aJ (i+1) ⟨hlt,he,by rw [hc,hx,hy,cmpL,if_neg (by rw [hn]; decide)]⟩ (by show _ - _<_ - _; omega)
 ·have hil:i=xs.length:=by
   have:¬ i<xs.length:=Zx
   omega
  have hx:xs.drop i=[]:=List.drop_eq_nil_of_le<|by omega
  refine aB<|xE<|xE<|xY<|xT<|cS<|cQ<|sM Z<|sV (aF Z underlying40)<|sM Z<|sV (aF Z underlying40)<|sV (aN Z Z)<|sK [35] Z ?_
  refine cC Z (λhe=>?_)<|λhe=>?_
  ·have he:xs.length<ys.length:=by
    have:(xs.length:Int)<ys.length:=Zj
    omega
   refine cQ<|sA Z<|sK [4] Z<|cT<|xR ?_
   rw [hc,hx,<- List.getElem_cons_drop (show i<ys.length by omega)]
   exact aj Z ⟨Z,Z⟩ sbq
  ·have he:¬ xs.length<ys.length:=by
    have:¬ (xs.length:Int)<ys.length:=Zj
    omega
   refine cK<|xT<|cQ<|sA Z<|sK [4] Z<|cT ?_
   rw [hc,hx,List.drop_eq_nil_of_le (by omega)]
   exact aj Z ⟨Z,Z⟩ sbq
theorem Ni {xs:List Nm} (hv:xu S v xs) (hl:xs.length≤1099511627776) (hne:xs≠[]):Reads prog 188 #[v] [S] (sv (jh xs)):=by
 obtain ⟨a,cap,rfl,_⟩:=id hv
 have h0:0<xs.length:=List.length_pos_iff.2 hne
 obtain ⟨b0,o0,cap0,hv0,hrd0⟩:=tN hv<|Zy h0
 refine aL (n:=25) func188 Z Z (len Z) λhr w0=>?_
 refine cQ<|sA Z<|sN<|nT<|cS<|cQ<|sM Z<|sV (aF Z underlying40)<|sV (aN Z Z)<|sK [0,2,7] Z<|cC Z (λhz=>?_)<|λhz=>?_
 ·have:(xs.length:Int)<1:=Zn
  omega
 ·refine cK<|xT<|cQ<|sM Z<|sV (vI (k:=0) (congrArg some hv0) Z jm Z h0 Z)<|sV (vY Z ld9) ?_
  refine sA Z<|sK [0,2,3] Z<|cS<|cQ<|sA Z<|sN<|nT<|cB<|aX (σ := Nm×Nat) (λq=>[(0,.slice a xs.length cap),(3,sv q.1),(4,.int .i64 (q.2:Nat))]) (λ_=>S::hr) (λq=>q.2≤xs.length/\q.1∈xs.take q.2/\∀ y∈xs.take q.2,lt y q.1=false) (λq=>xs.length - q.2) (xs[0],1) ⟨h0,by rw [List.take_succ_eq_append_getElem h0]; simp,λy hy=>by rw [List.take_succ_eq_append_getElem h0] at hy; simp at hy; rw [hy]; exact lt_irrefl _⟩ ?_
  rintro ⟨m,i⟩ ⟨hi,hm,hle⟩
  simp only at hi hm hle
  dsimp only
  refine cS<|cQ<|sM Z<|sM Z<|sV (aF Z underlying40)<|sV (aN Z Z)<|sK [0,3,4,15] Z<|cC Z (λhd=>?_)<|λhd=>?_
  ·have hlt:i<xs.length:=Zx
   obtain ⟨b,o,cap2,hv2,hrd⟩:=tN hv<|Zy hlt
   have ht:=List.take_succ_eq_append_getElem hlt
   refine cK<|xT<|cS<|cB<|cR<|sM Z<|sM Z<|sM Z<|sV (vI (k:=i) (congrArg some hv2) Z jm Z hlt Z)<|sV (vY Z ld9) ?_
   refine sV (v_smin Z Z)<|sA Z<|sN<|nK [0,3,4] Z<|ax<|xB<|xT<|cR<|sM Z<|sV (aI Z Z Za)<|sA Z<|sN<|nK [0,3,4] Z<|ax<|aJ (_,i+1) ⟨hlt,?_,?_⟩ (by show _ - _<_ - _; omega)
   ·show (if _ then _ else _)∈xs.take (i+1)
    rw [ht,List.mem_append]
    split
    ·exact .inl hm
    ·exact .inr<|List.mem_singleton.2 Z
   ·intro y hy
    show lt y (if _ then _ else _)=false
    rw [ht,List.mem_append,List.mem_singleton] at hy
    split
    ·rename_i hq
     rcases hy with hy | rfl
     ·exact hle y hy
     ·rw [Bool.or_eq_true] at hq
      rcases hq with hq | hq
      ·exact iF hq
      ·rw [show m=xs[i] by simpa using hq]; exact lt_irrefl _
    ·rename_i hq
     rw [Bool.not_eq_true,Bool.or_eq_false_iff] at hq
     rcases hy with hy | rfl
     ·cases hc : lt y xs[i] with
      | false=>rfl
      | true =>
       have hxm:lt xs[i] m=true:=by
        rcases dU m xs[i] with h | h | h
        ·exact absurd h (by rw [show lt m xs[i]=false from hq.1]; decide)
        ·rw [h] at hq; simp at hq
        ·exact h
       have:=hle y hy
       rw [lt_trans hc hxm] at this; cases this
     ·exact lt_irrefl _
  ·have hil:i=xs.length:=by
    have:¬ i<xs.length:=Zx
    omega
   subst hil
   rw [List.take_length] at hm hle
   rw [KF hm hle]
   refine aB<|xE<|xE<|xY<|xT<|cQ<|sM Z<|sA Z<|sK [2] Z<|cT ?_
   exact aj Z ⟨Z,Z⟩ sbq
end
def mY (l:Sys) (to c:Nm):List Nm:=match gQ l to c with | none=>[] | some k=>short l to k c
theorem qX {l:Sys} {to:Nm} {F:List (Nm×Nat)} (hF:∀ x,dW F x=gQ l to x) (x:Nm):(bK (mvG nV F) x).getD (.int .i64 0)=match gQ l to x with | none=>.int .i64 0 | some k=>.int .i64 ((k:Int)+1):=by
 rw [lh,hF]
 cases gQ l to x <;> rfl
theorem rU {l:Sys} {to c:Nm} {k:Nat} (h:gQ l to c=some k):k≤l.length:=by
 unfold gQ at h
 have:=List.mem_of_find?_eq_some h
 rw [List.mem_range] at this
 omega
theorem Cy {l:Sys} {to c:Nm}:gQ l to c=some 0↔c=to:=by
 rw [ig]
 simp [W]
theorem Aw (l:Sys) (to:Nm):∀ k c,short l to k c=c::(short l to k c).drop 1
 | 0,c=>rfl
 | k+1,c=>rfl
theorem Kc {l:Sys} (hF:Fine l) (c:Nm):(par l c).length≤1099511627776:=by
 refine Nat.le_trans (List.length_filter_le _ _) ?_
 unfold pars
 cases hf:find l c with
 | none=>simp
 | some x=>exact hF.few x (rJ hf).2
section
variable {S:Res} {v:Value} {l:Sys}
theorem FH {mb:Nat} (hv:l8 S v l) (hF:Fine l) (from_ to:Nm):CtN prog 226 #[.agg #[v,.map (some mb)],sv from_,sv to] [S,mps mb (bH l)] λu T=>∃ a cp,u = .slice a (mY l to from_).length cp/\a.isNone=(gQ l to from_).isNone/\T=NR u (mY l to from_):=by
 obtain ⟨a,cap,rfl,_⟩:=id hv
 have hFl:=hF.len
 refine qH (n:=52) func226 Z Z (len Z) λhr w0=>?_
 refine cQ (aP Z Z λb3=>?_)
 refine aP Z Z λb4=>?_
 refine sA Z<|sK [2,3,4,6] Z<|cQ<|sV (af Z kF Z ah) ?_
 refine sM Z<|aH Z Z en271 Z (far_ct hv hF to) ?_
 rintro u h' ⟨mf,F,rfl,rfl,hFF⟩
 simp only [lC,lN]
 refine au al162 λb7=>?_
 refine bf Z Z sz162 ?_
 refine sK [2,3,4,6,7] Z<|cS<|cQ<|sV (vY Z kE) ?_
 refine sV (vY Z ld9) ?_
 cases hd0:gQ l to from_
 ·have hsr:mY l to from_=[]:=by unfold mY; rw [hd0]
  refine sV (gq (show (bK (mvG nV F) from_).getD (.int .i64 0) = .int .i64 0 by rw [qX hFF,hd0])<|bI Z Z gJ nN slq) ?_
  refine sV (dP Z Z)<|sK [2,3,4,6,7,18] Z<|aQ Z ?_
  refine cQ<|sA Z<|sK [6] Z<|cT<|xR ?_
  rw [hsr]
  refine jC (cO 9 1)<|jO (bs:=[]) Z Z ⟨NR (.slice none 0 0) [],Z,none,0,Z,Z,Z⟩ sbq
 ·rename_i k0
  have hsr:mY l to from_=short l to k0 from_:=by unfold mY; rw [hd0]
  have hk0:=rU hd0
  refine sV (gq (show (bK (mvG nV F) from_).getD (.int .i64 0) = .int .i64 ((k0:Int)+1) by rw [qX hFF,hd0])<|bI Z Z gJ nN slq) ?_
  refine sV (dP Z Z)<|sK [2,3,4,6,7,18] Z ?_
  rw [show (((k0:Int)+1) == 0)=false by simp; omega]
  refine aG Z ?_
  refine cK<|xT<|cQ<|sV (vY Z ld9) ?_
  refine ak (cells:=[sv from_]) Z underlying40 fH Z Z Zz (ltn Z) λb20=>?_
  refine sA Z<|sK [2,3,4,6,7,8] Z<|cS<|cB<|cd_pv (Au (b:=b20) (n:=1) (sz:=1) (E:=9) [nC from_] Z (by simp [nC]) Z<|by decide) ?_
  refine nI ?_
  simp only [lC,lN]
  refine nH (σ := (Nat×Nm)×(Value×List Nm)×List Nat) (λq=>q.2.2.map mk) (λq=>[(2,sv to),(3,.pointer (some ⟨b3,0,none⟩)),(4,.pointer (some ⟨b4,0,none⟩)),(7,.pointer (some ⟨b7,0,none⟩)),(8,q.2.1.1)]) (λq=>Res.star (marks q.2.2)::pt b4 (cl [sv q.1.2] 9)::NR q.2.1.1 q.2.1.2::pt b7 (cl [.map (some mf)] 162)::mps mf (mvG nV F)::pt b3 (cl [.slice a l.length cap,.map (some mb)] 164)::S::mps mb (bH l)::hr) (λq=>gQ l to q.1.2=some q.1.1/\q.2.1.1.oneCell'=true/\q.2.1.2++(short l to q.1.1 q.1.2).drop 1=short l to k0 from_) (λq=>q.1.1) ((k0,from_),(.slice (some ⟨b20,0,none⟩) 1 1,[from_]),[]) ⟨hd0,Z,(Aw l to k0 from_).symm⟩ Z ⟨Z,Z,Z,Z,Z,trivial⟩ sbq ?_
  rintro ⟨⟨j,c⟩,⟨w0v,out⟩,bs⟩ ⟨hdj,hw0,hout⟩
  simp only at hdj hw0 hout
  dsimp only
  have holen:out.length≤k0+1:=by
   have:=congrArg List.length hout
   rw [List.length_append,fE] at this
   omega
  refine cS<|cQ<|sV (vY Z ld9) ?_
  refine sM Z<|sV (wV Z Z)<|sK [2,3,4,7,8,23] Z<|cC Z (λhct=>?_)<|λhct=>?_
  ·have hct:c≠to:=Ze
   obtain ⟨j',rfl⟩:∃ j',j=j'+1:=by
    cases j with
    | zero=>exact absurd (Cy.1 hdj) hct
    | succ j'=>exact ⟨j',rfl⟩
   have hnx:=EO hdj
   have hdn:=BR hdj
   have hjl:=rU hdj
   refine cK<|xT<|cB<|cQ (au al40 λb9=>?_)
   refine sK [2,3,4,7,8,9] Z<|cS<|cQ<|sV (af Z kF Z ah) ?_
   refine sV (vY Z ld9) ?_
   refine aH Z Z Fq Z (jV Z) ?_
   rintro u h' ⟨n1,n2,rfl,rfl⟩
   refine sK [2,3,4,7,8,9,26] Z<|cB<|dK (cO 9 1) ?_
   simp only [lC,lN]
   unfold seqv
   refine iY Z Fu λyl db rec hst hpe hps hasg hbo hkn2=>?_
   refine ⟨_,Ct.perm (FD (σ := Value×List Nm) (b1:=n1) (b2:=n2) (mb:=mb) (yl:=yl) (c:=c) (λq=>pt yl (.loop rec)::pt db (.deferred<|some [])::pt b9 (cl [q.1] 40)::NR q.1 q.2::Res.star (marks bs)::pt b4 (cl [sv c] 9)::NR w0v out::pt b7 (cl [.map (some mf)] 162)::mps mf (mvG nV F)::pt b3 (cl [.slice a l.length cap,.map (some mb)] 164)::hr)
    (λk q=>q.1.oneCell'=true/\q.2=((par l c).take k).filter λp=>gQ l to p == some j') (λ_ _=>False) (.slice none 0 0,[]) ⟨rfl,rfl⟩ hv hF.few ?_) ?_,?_⟩
   ·rintro k ⟨w, ns⟩ p hk ⟨hw, hns⟩
    simp only at hw hns
    obtain ⟨hkl,hke⟩:=List.getElem?_eq_some_iff.1 hk
    have hpl:=Kc hF c
    have hnl:ns.length≤k:=by rw [hns]; exact Nat.le_trans (List.length_filter_le _ _) (by simp; omega)
    have htk:((par l c).take (k+1)).filter (λp=>gQ l to p == some j')=ns++(if gQ l to p == some j' then [p] else []):=by
     rw [List.take_succ_eq_append_getElem hkl,hke,List.filter_append,<- hns]
     congr 1
     by_cases hq:(gQ l to p == some j')=true
     ·rw [if_pos hq,List.filter_cons_of_pos (by exact hq)]; rfl
     ·rw [if_neg hq,List.filter_cons_of_neg (by exact hq)]; rfl
    refine Yc.perm (qF (n:=52) (rec:=rec) (args:=[sv p]) (hf:=pt db (.deferred<|some [])::pt b9 (cl [w] 40)::NR w ns::Res.star (marks bs)::pt b4 (cl [sv c] 9)::NR w0v out::pt b7 (cl [.map (some mf)] 162)::mps mf (mvG nV F)::pt b3 (cl [.slice a l.length cap,.map (some mb)] 164)::S::mps mb (bH l)::hr) (by rw [hps]; rfl) hkn2 (by rw [hps]; decide) ?_) (by exact (by repeat (first | exact Pm.refl | refine Pm.cons slq ?_):Pm _ _).perm)
    intro hr2 w1
    rw [hasg,hps,hbo]
    simp only [lC,lN]
    refine cR<|sA Z<|sN<|nK [4,7,9,10] Z<|ax<|lu Z slq (by first | rfl | assumption) ?_
    refine cB<|cQ<|sV (vY Z kE) ?_
    refine sM Z ?_
    cases hdp:gQ l to p
    ·refine sV (gq (show (bK (mvG nV F) p).getD (.int .i64 0) = .int .i64 0 by rw [qX hFF,hdp])<|bI Z Z gJ nN slq) ?_
     refine sA Z<|sK [4,7,9,10,11] Z<|cQ<|sM Z<|sV (cu Z Z)<|sM Z<|aC Z Z Z ?_
     iterate 5 refine aC rfl rfl rfl ?_
     refine sV (vP Z Z)<|sK [9,10,40] Z<|aG Z ?_
     refine cK<|xB<|dB slq (.inl ⟨Z,(w,ns),⟨hw,?_⟩,Z⟩) ?_
     ·show ns=_
      rw [htk,hdp]; simp
     ·rw [dC hst hpe]
      exact sbq
    ·rename_i m
     have hml:=rU hdp
     refine sV (gq (show (bK (mvG nV F) p).getD (.int .i64 0) = .int .i64 ((m:Int)+1) by rw [qX hFF,hdp])<|bI Z Z gJ nN slq) ?_
     refine sA Z<|sK [4,7,9,10,11] Z<|cQ<|sM Z<|sV (cu Z Z)<|sM Z ?_
     rw [show decide ((0:Int)<(m:Int)+1)=true from decide_eq_true (by omega)]
     refine sG Z Z (vM Z)<|sG Z Z (vY Z kE) ?_
     refine sG Z Z (vY Z ld9) ?_
     refine sG Z Z (gq (show (bK (mvG nV F) c).getD (.int .i64 0) = .int .i64 (((j'+1:Nat):Int)+1) by rw [qX hFF,hdj])<|bI Z Z gJ nN slq) ?_
     refine sG Z Z (Cb Z Z Za)<|sG Z Z (dP Z Z)<|sV (vQ Z Z)<|sK [9,10,40] Z<|cC Z (λhb=>?_)<|λhb=>?_
     ·have hb:m=j':=by
       have:(m:Int)+1=((j'+1:Nat):Int)+1 - 1:=by simpa using hb
       omega
      refine cR<|sV (vY Z fI) ?_
      refine sM Z (ak (cells:=[sv p]) Z underlying40 fH Z Z Zz (ltn Z) λb43=>?_)
      refine dZ [nC p] Z Z underlying40 fH Z (by decide) (show Sel _ (NR w ns) _ from slq) (by simp [nC]) Z (λj u2 hu2=>bT<|bV<|by simpa [nC] using hu2) (by simp [nC,Value.oneCell']) (by simp; omega) (by simp; omega) (ltn Z) λw3 hw3 _=>?_
      rw [show ns.map nC++[nC p]=(ns++[p]).map nC by simp]
      refine bf Z Z yU ?_
      refine sN<|nK [] Z<|ax<|xB<|dB slq (.inl ⟨Z,(w3,ns++[p]),⟨hw3,?_⟩,Z⟩) ?_
      ·show ns++[p]=_
       rw [htk,hdp,hb]; simp
      ·rw [dC hst hpe]
       exact sbq
     ·have hb:m≠j':=λe=>by
       have:¬ (m:Int)+1=((j'+1:Nat):Int)+1 - 1:=by simpa using hb
       omega
      refine cK<|xB<|dB slq (.inl ⟨Z,(w,ns),⟨hw,?_⟩,Z⟩) ?_
      ·show ns=_
       rw [htk,hdp]; simp [hb]
      ·rw [dC hst hpe]
       exact sbq
   ·exact (by repeat (first | exact Pm.refl | refine Pm.cons slq ?_):Pm _ _).perm
   ·rintro u h' ⟨rfl,(⟨⟨w,ns⟩,⟨hw,hns⟩,rfl⟩ | ⟨_,_,hfalse,_⟩)⟩
    ·simp only at hw hns
     rw [List.take_length] at hns
     refine ⟨rec,_,slq,(by rw [hst]; simp),?_⟩
     rw [hpe]
     dsimp only
     have hnx2:ns=nexts l to j' c:=hns
     have hnl:ns.length≤1099511627776:=by rw [hns]; exact Nat.le_trans (List.length_filter_le _ _) (Kc hF c)
     rw [<- hnx2] at hnx hdn
     have hsh:short l to (j'+1) c=c::short l to j' (jh ns):=by rw [short,<- hnx2]
     rw [hsh] at hout
     refine xB<|xT<|cQ<|sV (vY Z fI) ?_
     refine nY (r:=NR w ns) slq λhok=>?_
     refine aY Z Z en188 Z (Ni (iL hok) hnl hnx) ?_
     refine bf Z Z sz9 ?_
     refine sK [2,3,4,7,8] Z<|cR<|sM Z<|sV (vY Z ld9) ?_
     refine ak (cells:=[sv (jh ns)]) Z underlying40 fH Z Z Zz (ltn Z) λb49=>?_
     refine dZ [nC (jh ns)] Z Z underlying40 fH Z (by decide) (show Sel _ (NR w0v out) _ from slq) (by simp [nC]) Z (λj u2 hu2=>bT<|bV<|by simpa [nC] using hu2) (by simp [nC,Value.oneCell']) (by simp; omega) (by simp; omega) (ltn Z) λw3 hw3 _=>?_
     rw [show out.map nC++[nC (jh ns)]=(out++[jh ns]).map nC by simp]
     refine sA Z<|sN<|nK [2,3,4,7,8] Z<|ax<|xB<|jl slq slq ?_
     refine kY ((j',jh ns),(w3,out++[jh ns]),db::bs) ⟨hdn.2,hw3,?_⟩ (Nat.lt_succ_self _) Z ⟨Z,Z,Z,Z,Z,trivial⟩ sbq
     show out++[jh ns]++(short l to j'<|jh ns).drop 1=short l to k0 from_
     rw [<- hout,List.append_assoc]
     congr 1
     exact (Aw l to j'<|jh ns).symm
    ·exact hfalse.elim
  ·have hct:c=to:=Ze
   have hj0:j=0:=by
    have:=(Cy (l:=l)).2 hct
    rw [hdj] at this; cases this; rfl
   subst hj0
   have hout2:out=short l to k0 from_:=by rw [<- hout]; simp [short]
   have hne:out≠[]:=λe=>by
    have:=fE l to k0 from_
    rw [<- hout2,e] at this; cases this
   rw [hsr,<- hout2]
   refine aB<|xE<|xE<|xY<|xT<|cQ<|sM Z<|sA Z<|sK [6] Z<|cT (dY (r:=NR w0v out) slq λ⟨fh,hok⟩=>?_)
   rcases VR.form hok with ⟨_,he⟩ | ⟨vb,vo,vc,he,_,_⟩
   ·exact absurd (List.map_eq_nil_iff.1 he) hne
   ·rw [List.length_map] at he
    subst he
    refine DL (bs:=bs) Z Z ⟨NR (.slice (some ⟨vb,vo,none⟩) out.length vc) out,Z,some ⟨vb,vo,none⟩,vc,Z,Z,Z⟩ sbq
end
end Go.Hr
