/-
  Types of generic classes as plain data: equal types,depth,parts,formals replaced. No program in sight.
-/
import Derived.Test.YtknmacdbffgjgaaGreatDoorM4
import Derived.ProofKit
import Derived.OpenShut
import Derived.Test.YtknmacdbffgjgaaGreatDoorRows
import Derived.Test.YtknmacdbffgjgaaGreatDoorM1
set_option linter.unusedVariables false
set_option linter.unusedSimpArgs false
set_option maxRecDepth 100000
set_option maxHeartbeats 16000000
namespace Go.Ck
open Go
section
variable {P:Program} {e:Env} {h:SH} {ty:TypeId}
end
section
variable {c:Cx} {ops:Array Oper} {K:Act->World->Prop} {rest:List Oper} {e:Env} {h h' hr:SH}
theorem sV {d:Nat} {op:Op} {ty:TypeId} {pos:String} {after:Array Edge} {v:Value} (hv:Vop c.P e h op ty v) (hn:St c ops K rest ((d,v)::e) h) (hd:d<c.n:=by exact ltn rfl) :
  St c ops K (⟨some d,op,ty,pos,after,none⟩::rest) e h:=Ib hv hd hn
theorem sG {d g gd:Nat} {op:Op} {ty:TypeId} {pos:String} {after:Array Edge} {v:Value} {want:Bool} (hg:((ops[g]?).bind (·.dst))=some gd) (hgv:e.get? gd=some (.bool want))
  (hv:Vop c.P e h op ty v) (hn:St c ops K rest ((d,v)::e) h) (hd:d<c.n:=by exact ltn rfl):St c ops K (⟨some d,op,ty,pos,after,some (g,want)⟩::rest) e h:=st_valg hg hgv hv hd hn
theorem aB {d g gd:Nat} {op:Op} {ty:TypeId} {pos:String} {after:Array Edge} {want b:Bool} (hg:((ops[g]?).bind (·.dst))=some gd) (hgv:e.get? gd=some (.bool b)) (hb:b = !want)
  (hn:St c ops K rest ((d,undef)::e) h) (hd:d<c.n:=by exact ltn rfl):St c ops K (⟨some d,op,ty,pos,after,some (g,want)⟩::rest) e h:=st_skip hg hgv hb hd hn
theorem aJ {d:Nat} {f:Operand} {az:Array Operand} {ts:Array TypeId} {ty:TypeId} {pos:String} {after:Array Edge} {k:FuncId} {fi cp:Array Value} {vs:List Value} {args:Array Value} {hf:SH} {R:Value->SH->Prop}
  (hv:e.ev? f=some (.func (.func k) fi cp)) (has:az.toList.mapM e.ev? = some vs) (hE:Enters c.P k) (ha:fi++vs.toArray++cp=args) (ct:Ct c.P k args hf R)
  (hn:∀ v h',R v h'->St c ops K rest ((d,v)::e) (h'++hr)) (pk:Pk h hf hr:=by repeat (first | exact Pk.nil | (apply Pk.cons; (repeat (first | exact Sel.here | apply Sel.there))))) (hd:d<c.n:=by exact ltn rfl) :
  St c ops K (⟨some d,.call { callee:=.value f,args:=az,argTypes:=ts },ty,pos,after,none⟩::rest) e h:=st_call hv has hE ha ct pk hd hn
theorem aX {d:Nat} {f:Operand} {az:Array Operand} {ts:Array TypeId} {ty:TypeId} {pos:String} {after:Array Edge} {k:FuncId} {fi cp:Array Value} {vs:List Value} {args:Array Value} {hf:SH} {v:Value}
  (hv:e.ev? f=some (.func (.func k) fi cp)) (has:az.toList.mapM e.ev? = some vs) (hE:Enters c.P k) (ha:fi++vs.toArray++cp=args) (ct:Reads c.P k args hf v)
  (hn:St c ops K rest ((d,v)::e) h) (pk:Pk h hf hr:=by repeat (first | exact Pk.nil | (apply Pk.cons; (repeat (first | exact Sel.here | apply Sel.there))))) (hd:d<c.n:=by exact ltn rfl) :
  St c ops K (⟨some d,.call { callee:=.value f,args:=az,argTypes:=ts },ty,pos,after,none⟩::rest) e h:=M6 hv has hE ha ct pk hd hn
theorem bJ {d g gd:Nat} {f:Operand} {az:Array Operand} {ts:Array TypeId} {ty:TypeId} {pos:String} {after:Array Edge} {k:FuncId} {fi cp:Array Value} {vs:List Value} {args:Array Value} {hf:SH} {v:Value} {want:Bool}
  (hg:((ops[g]?).bind (·.dst))=some gd) (hgv:e.get? gd=some (.bool want))
  (hv:e.ev? f=some (.func (.func k) fi cp)) (has:az.toList.mapM e.ev? = some vs) (hE:Enters c.P k) (ha:fi++vs.toArray++cp=args) (ct:Reads c.P k args hf v)
  (hn:St c ops K rest ((d,v)::e) h) (pk:Pk h hf hr:=by repeat (first | exact Pk.nil | (apply Pk.cons; (repeat (first | exact Sel.here | apply Sel.there))))) (hd:d<c.n:=by exact ltn rfl) :
  St c ops K (⟨some d,.call { callee:=.value f,args:=az,argTypes:=ts },ty,pos,after,some (g,want)⟩::rest) e h:=KX hg hgv hv has hE ha ct pk hd hn
theorem bg {T E:TypeId} {x y:Operand} {ty:TypeId} {pos:String} {after:Array Edge} {b off:Nat} {l l':List Value} {v:Value} {k:SH}
  (hx:e.ev? x=some (.pointer<|some ⟨b,off,none⟩)) (hy:e.ev? y=some v) (hT:Sz c.P T 1) (hn:St c ops K rest e (pt b (cl l' E)::k))
  (hv:v.oneCell'=true:=by first | rfl | assumption) (hs:Sel h (pt b<|cl l E) k:=by repeat (first | exact Sel.here | apply Sel.there)) (ho:off<l.length:=by first | exact ltn rfl | assumption | (simp only [List.length_append,Fg,Dy]; omega) | omega) (hl:SetAt l off v l':=by first | (repeat (first | exact SetAt.zero | apply SetAt.succ)); done | exact SetAt.set) :
  St c ops K (⟨none,.store T x y,ty,pos,after,none⟩::rest) e h:=M7 hx hy hT hv hs ho hl hn
theorem ai {T E:TypeId} {x y:Operand} {ty:TypeId} {pos:String} {after:Array Edge} {b n:Nat} {l vs:List Value} {k:SH}
  (hx:e.ev? x=some (.pointer<|some ⟨b,0,none⟩)) (hy:e.ev? y=some (.agg vs.toArray)) (hT:Sz c.P T n) (hn:vs.length=n) (h1:vs.all Value.oneCell'=true)
  (hnx:St c ops K rest e (pt b (cl vs E)::k)) (hs:Sel h (pt b<|cl l E) k:=by repeat (first | exact Sel.here | apply Sel.there)) (hl:l.length=vs.length:=by exact rfl) :
  St c ops K (⟨none,.store T x y,ty,pos,after,none⟩::rest) e h:=KY hx hy hT hn (ones h1) hs hl hnx
theorem ak {d:Nat} {T ty:TypeId} {pos:String} {after:Array Edge} {zs:List Value} (hA:Al c.P T zs)
  (hn:∀ b,St c ops K rest ((d,.pointer (some ⟨b,0,none⟩))::e) (pt b (cl zs T)::h)) (hd:d<c.n:=by exact ltn rfl):St c ops K (⟨some d,.alloc T,ty,pos,after,none⟩::rest) e h:=M8 hA hd hn
theorem aP {d:Nat} {T ty:TypeId} {x:Operand} {pos:String} {after:Array Edge} {v:Value} {zs:List Value} (hx:e.ev? x=some v) (hz:v.cells=zs.toArray)
  (hn:∀ b,St c ops K rest ((d,.pointer (some ⟨b,0,none⟩))::e) (pt b (cl zs T)::h)) (hd:d<c.n:=by exact ltn rfl):St c ops K (⟨some d,.box T x,ty,pos,after,none⟩::rest) e h:=st_box hx hz hd hn

/-! In a region that draws its order. -/
variable {pre:Nat->Bool} {hC:SH} {t:Ord}
theorem bi {i d:Nat} {op:Op} {ty:TypeId} {pos:String} {after:Array Edge} {v:Value} (hi:ops[i]? = some ⟨some d,op,ty,pos,after,none⟩) (hv:Vop c.P e hC op ty v)
  (hn:DrL c ops pre hC K t ((d,v)::e) h) (hs:Sub hC h:=by repeat (first | exact Sub.refl _ | exact Sub.nil _ | refine Sub.sel slq ?_ | apply Sub.cons)) (hd:d<c.n:=by exact ltn rfl):DrL c ops pre hC K (.cons (i,true) t) e h:=dr_val hi hs hv hd hn
theorem gX {i d g gd:Nat} {op:Op} {ty:TypeId} {pos:String} {after:Array Edge} {v:Value} {want:Bool} (hi:ops[i]? = some ⟨some d,op,ty,pos,after,some (g,want)⟩) (hg:((ops[g]?).bind (·.dst))=some gd) (hgv:e.get? gd=some (.bool want))
  (hv:Vop c.P e hC op ty v) (hn:DrL c ops pre hC K t ((d,v)::e) h) (hs:Sub hC h:=by repeat (first | exact Sub.refl _ | exact Sub.nil _ | refine Sub.sel slq ?_ | apply Sub.cons)) (hd:d<c.n:=by exact ltn rfl):DrL c ops pre hC K (.cons (i,true) t) e h:=dr_valg hi hg hgv hs hv hd hn
theorem jh {i d g gd:Nat} {op:Op} {ty:TypeId} {pos:String} {after:Array Edge} {want b:Bool} (hi:ops[i]? = some ⟨some d,op,ty,pos,after,some (g,want)⟩) (hg:((ops[g]?).bind (·.dst))=some gd) (hgv:e.get? gd=some (.bool b)) (hb:b = !want)
  (hn:DrL c ops pre hC K t ((d,undef)::e) h) (hs:Sub hC h:=by repeat (first | exact Sub.refl _ | exact Sub.nil _ | refine Sub.sel slq ?_ | apply Sub.cons)) (hd:d<c.n:=by exact ltn rfl):DrL c ops pre hC K (.cons (i,true) t) e h:=dr_skip hi hg hgv hb hs hd hn
theorem dV {i d:Nat} {op:Op} {ty:TypeId} {pos:String} {after:Array Edge} {v:Value} (hi:ops[i]? = some ⟨some d,op,ty,pos,after,none⟩) (hv:Vop c.P e [] op ty v)
  (hn:DrL c ops pre hC K t ((d,v)::e) h) (hd:d<c.n:=by exact ltn rfl):DrL c ops pre hC K (.pure i t) e h:=drp_val hi hv hd hn
theorem cu {i d g gd:Nat} {op:Op} {ty:TypeId} {pos:String} {after:Array Edge} {v:Value} {want:Bool} (hi:ops[i]? = some ⟨some d,op,ty,pos,after,some (g,want)⟩) (hg:((ops[g]?).bind (·.dst))=some gd) (hgv:e.get? gd=some (.bool want))
  (hv:Vop c.P e [] op ty v) (hn:DrL c ops pre hC K t ((d,v)::e) h) (hd:d<c.n:=by exact ltn rfl):DrL c ops pre hC K (.pure i t) e h:=Nb hi hg hgv hv hd hn
theorem gP {i d g gd:Nat} {op:Op} {ty:TypeId} {pos:String} {after:Array Edge} {want b:Bool} (hi:ops[i]? = some ⟨some d,op,ty,pos,after,some (g,want)⟩) (hg:((ops[g]?).bind (·.dst))=some gd) (hgv:e.get? gd=some (.bool b)) (hb:b = !want)
  (hn:DrL c ops pre hC K t ((d,undef)::e) h) (hd:d<c.n:=by exact ltn rfl):DrL c ops pre hC K (.pure i t) e h:=Nc hi hg hgv hb hd hn
theorem gY {i d:Nat} {f:Operand} {az:Array Operand} {ts:Array TypeId} {ty:TypeId} {pos:String} {after:Array Edge} {k:FuncId} {fi cp:Array Value} {vs:List Value} {args:Array Value} {hf hr:SH} {v:Value}
  (hi:ops[i]? = some ⟨some d,.call { callee:=.value f,args:=az,argTypes:=ts },ty,pos,after,none⟩)
  (hv:e.ev? f=some (.func (.func k) fi cp)) (has:az.toList.mapM e.ev? = some vs) (hE:Enters c.P k) (ha:fi++vs.toArray++cp=args) (ct:Reads c.P k args hf v)
  (hn:DrL c ops pre hC K t ((d,v)::e) h) (hs:Sub hC h:=by repeat (first | exact Sub.refl _ | exact Sub.nil _ | refine Sub.sel slq ?_ | apply Sub.cons)) (pk:Pk hC hf hr:=by repeat (first | exact Pk.nil | (apply Pk.cons; (repeat (first | exact Sel.here | apply Sel.there))))) (hd:d<c.n:=by exact ltn rfl):DrL c ops pre hC K (.cons (i,true) t) e h:=dr_call hi hs hv has hE ha ct pk hd hn
theorem vg {i d g gd:Nat} {f:Operand} {az:Array Operand} {ts:Array TypeId} {ty:TypeId} {pos:String} {after:Array Edge} {k:FuncId} {fi cp:Array Value} {vs:List Value} {args:Array Value} {hf hr:SH} {v:Value} {want:Bool}
  (hi:ops[i]? = some ⟨some d,.call { callee:=.value f,args:=az,argTypes:=ts },ty,pos,after,some (g,want)⟩) (hg:((ops[g]?).bind (·.dst))=some gd) (hgv:e.get? gd=some (.bool want))
  (hv:e.ev? f=some (.func (.func k) fi cp)) (has:az.toList.mapM e.ev? = some vs) (hE:Enters c.P k) (ha:fi++vs.toArray++cp=args) (ct:Reads c.P k args hf v)
  (hn:DrL c ops pre hC K t ((d,v)::e) h) (hs:Sub hC h:=by repeat (first | exact Sub.refl _ | exact Sub.nil _ | refine Sub.sel slq ?_ | apply Sub.cons)) (pk:Pk hC hf hr:=by repeat (first | exact Pk.nil | (apply Pk.cons; (repeat (first | exact Sel.here | apply Sel.there))))) (hd:d<c.n:=by exact ltn rfl):DrL c ops pre hC K (.cons (i,true) t) e h:=Nf hi hg hgv hs hv has hE ha ct pk hd hn
theorem aY {i:Nat} {h0:SH} (hn:DrL c ops pre hC K t e h) (hs:pre i=true->Sub hC h0->Sub hC h:=by first | (intro hq; cases hq; done) | (intro _ hs; exact hs) | (intro _ hs; refine Sub.trans hs ?_; (repeat (first | exact Sub.refl _ | exact Sub.nil _ | refine Sub.sel slq ?_ | apply Sub.cons)); done) | (intro _ _; (repeat (first | exact Sub.refl _ | exact Sub.nil _ | refine Sub.sel slq ?_ | apply Sub.cons)); done)):St c ops (EffK c ops pre hC K i t h0) [] e h:=Ng hs hn
/-! Remembered slots. -/
def kept (e:Env):List Nat->Option Env
 | []=>some []
 | k::ks=>match e.get? k with
  | some v=>(kept e ks).map ((k,v) :: ·)
  | none=>none
theorem Fj {e : Env} : ∀ {ks : List Nat} {e' : Env}, kept e ks = some e' -> Env.sub e' e
 | [],e',h=>by simp only [kept,Option.some.injEq] at h; subst h; trivial
 | k::ks,e',h=>by
  simp only [kept] at h
  cases hg:e.get? k with
  | none=>rw [hg] at h; cases h
  | some v =>
   rw [hg] at h
   simp only [Option.map_eq_some_iff] at h
   obtain ⟨t,h1,rfl⟩:=h
   exact ⟨hg,Fj h1⟩
theorem nK (ks:List Nat) {e':Env} (hk:kept e ks=some e') (hn:Nx c K e' h):Nx c K e h:=hn.weaken (Fj hk)
variable {Q:Exit->Act->World->Prop}
end
section
variable {P:Program} {n:Nat} {w0:World} {fn:Func} {e:Env} {h hr h':SH} {R:Value->SH->Prop} {r:Option Nat} {vs:List Value}
theorem aj (hv:e.res? fn.results.toList=some vs) (hR:R (kH vs) h') (hp:Sub (h'++hr) h:=by first | (rw [List.nil_append]; (repeat (first | exact Sub.refl _ | apply Sub.cons)); done) | (repeat (first | exact Sub.refl _ | exact Sub.nil _ | refine Sub.sel slq ?_ | apply Sub.cons))):Xt ⟨P,r,n,[],w0⟩ .ret (bodyPost P fn (Post w0 hr R)) e h:=xt_ret hv hR hp
theorem zA (hv:e.res? fn.results.toList=some vs) (hR:R (kH vs) h') (hp:Sub (h'++hr) h:=by first | (rw [List.nil_append]; (repeat (first | exact Sub.refl _ | apply Sub.cons)); done) | (repeat (first | exact Sub.refl _ | exact Sub.nil _ | refine Sub.sel slq ?_ | apply Sub.cons))):Xt ⟨P,r,n,[],w0⟩ .normal (bodyPost P fn (Post w0 hr R)) e h:=xt_end hv hR hp
end
theorem Z {α : Sort _} {a : α}:a=a:=Eq.refl a
theorem lC {α : Type _} {a : α} {az bs:List α}:(a::az)++bs=a::(az++bs):=rfl
theorem lN {α : Type _} {az:List α}:([]:List α)++az=az:=rfl
theorem uG {e e':Env} {d:Nat} {u v:Value} (hv:u=v:=by first | rfl | (rw [hg]; rfl) | simp_all) (h:zu e e':=by repeat (first | exact uR | refine uS rfl ?_)):zu ((d,u)::e) ((d,v)::e'):=uH hv h
section
variable {c:Cx} {ops:Array Oper} {K:Act->World->Prop} {rest:List Oper} {e:Env} {h:SH} {Q:Exit->Act->World->Prop}
theorem sM {d:Nat} {x:Operand} {ty:TypeId} {pos:String} {after:Array Edge} {v:Value} (hv:e.ev? x=some v) (hn:St c ops K rest ((d,v)::e) h) (hd:d<c.n:=by exact ltn rfl):St c ops K (⟨some d,.move x,ty,pos,after,none⟩::rest) e h:=sV (vM hv) hn hd
theorem sA {d:Nat} {x:Operand} {ty:TypeId} {pos:String} {after:Array Edge} {v:Value} (hv:e.ev? x=some v) (hn:St c ops K rest ((d,v)::e) h) (hd:d<c.n:=by exact ltn rfl):St c ops K (⟨some d,.assign x,ty,pos,after,none⟩::rest) e h:=sV (vA hv) hn hd
theorem sK (ks:List Nat) {e':Env} {y:Code} (hk:kept e ks=some e') (hy:Cd c y Q e' h):St c ops (Exit.then (Behind c y Q) Q .normal) [] e h:=sN (nK ks hk<|nT hy)
theorem cQ {id:Nat} {l:List Oper} {y:Code} (hs:St c l.toArray (Exit.then (Behind c y Q) Q .normal) l e h):Cd c (.seq (.region id l.toArray false) y) Q e h:=cS (cR hs)
end
def fbody (f:Func):Code:=f.body.getD .skip
def cdl:Code->Code
 | .seq a _=>a
 | .block _ x=>x
 | .loop x=>x
 | .scope x=>x
 | .cond _ a _=>a
 | c=>c
def cdr:Code->Code
 | .seq _ b=>b
 | .cond _ _ b=>b
 | c=>c
section
variable {c:Cx} {Q:Exit->Act->World->Prop} {e e':Env} {h h':SH} {ex:Exit} {x:Code}
end

/-! ## A guard that has no value: skipped -/
section
variable {c:Cx} {ops:Array Oper} {K:Act->World->Prop} {rest:List Oper} {e:Env} {h hC:SH} {pre:Nat->Bool} {t:Ord}
theorem DK {g gd:Nat} (hg:((ops[g]?).bind (·.dst))=some gd) (hgv:e.get? gd=some undef) {n:Nat} {ds:List Deferred} {a:Act} (hk:Kn n ds a e):yielded ops a.tmps g=none:=by
 unfold yielded
 cases ho:ops[g]? with
 | none=>simp [ho] at hg
 | some o=>simp only [ho,Option.bind_some] at hg; simp [hg,hk.get gd _ hgv,undef]
theorem bY {d g gd:Nat} {op:Op} {ty:TypeId} {pos:String} {after:Array Edge} {want:Bool} (hg:((ops[g]?).bind (·.dst))=some gd) (hgv:e.get? gd=some undef)
  (hn:St c ops K rest ((d,undef)::e) h) (hd:d<c.n:=by exact ltn rfl):St c ops K (⟨some d,op,ty,pos,after,some (g,want)⟩::rest) e h:=λa w hk hh hs=>by
 unfold LsW
 rw [if_neg (by simp [Region.wanted,DK hg hgv hk])]
 exact hn _ w (hk.put undef hd) hh hs
end
section
variable {c:Cx} {Q:Exit->Act->World->Prop} {e:Env} {h:SH}
theorem aW {σ : Type} {x:Code} (E : σ -> Env) (H : σ -> SH) (Φ : σ -> Prop) (μ : σ -> Nat) (s0 : σ) (h0 : Φ s0) (hr:∀ s,Φ s->Cd c x (Exit.then (JR c E H Φ μ s) Q) (E s) (H s))
  (hs:Env.sub (E s0) e:=by repeat (first | exact trivial | refine ⟨rfl,?_⟩)) (hp:Sub (H s0) h:=by (repeat (refine Sub.sel slq ?_)); (repeat apply Sub.cons); first | exact Sub.refl _ | exact Sub.nil _):Cd c (.loop x) Q e h:=cd_loop E H Φ μ s0 h0 hs hp hr
theorem aM {σ : Type} {E : σ -> Env} {H : σ -> SH} {Φ : σ -> Prop} {μ : σ -> Nat} {s : σ} (s' : σ) (h1 : Φ s') (h2 : μ s' < μ s) (hs:Env.sub (E s') e:=by repeat (first | exact trivial | refine ⟨rfl,?_⟩)) (hp:Sub (H s') h:=by (repeat (refine Sub.sel slq ?_)); (repeat apply Sub.cons); first | exact Sub.refl _ | exact Sub.nil _) :
  Xt c .normal (Exit.then (JR c E H Φ μ s) Q) e h:=M9 s' h1 h2 hs hp
end
end Go.Ck
namespace Go.Ck
open Go Go.RowKit Go.ChangeShapes Go.WideShapes
inductive Ty where
 | int (k:IntKind)
 | bool
 | str
 | slice (t:Ty)
 | struct (fs:List Ty)
 | any (n:Nat) (L:List TypeId)
mutual
def Ty.D:Ty->Type
 | .int _=>Int
 | .bool=>Bool
 | .str=>ByteArray
 | .slice t=>List (Ty.D t)
 | .struct fs=>Ty.Ds fs
 | .any _ _=>Unit
def Ty.Ds:List Ty->Type
 | []=>Unit
 | t::ts=>Ty.D t×Ty.Ds ts
end
mutual
def Ty.sz:Ty->Nat
 | .int _=>1
 | .bool=>1
 | .str=>1
 | .slice _=>1
 | .struct fs=>Ty.szs fs
 | .any n _=>n
def Ty.szs:List Ty->Nat
 | []=>0
 | t::ts=>Ty.sz t+Ty.szs ts
end
mutual
def Rep (r : Res) : (t : Ty) -> List Value -> t.D -> Prop
 | .int k,cs,n=>cs=[.int k n]/\(Lit.int k n).wf=true
 | .bool,cs,b=>cs=[.bool b]
 | .str,cs,s=>cs=[.string s]/\s.size≤maxLen
 | .slice t,cs,l=>∃ a cap,cs=[.slice a (List.length l) cap]/\List.length l≤cap/\cap≤maxLen/\(a=none->cap=0) /\
   (l=([]:List t.D)∨∃ b o,a=some ⟨b,o,none⟩/\∀ (i:Nat) (x:t.D),@getElem? (List t.D) Nat t.D _ _ l i=some x->∃ us:List Value,us.length=t.sz/\Rds r b (o+i * t.sz) us/\Rep r t us x)
 | .struct fs,cs,x=>Reps r fs cs x
 | .any n _,cs,_=>cs.length=n
def Reps (r:Res):(fs:List Ty)->List Value->Ty.Ds fs->Prop
 | [],cs,_=>cs=[]
 | t::ts,cs,(x,xs)=>∃ u us,cs=u++us/\u.length=t.sz/\Rep r t u x/\Reps r ts us xs
end
def JV (P:Program) (L:List TypeId):Bool:=L.all λt=>match P.underlying t with
 | some (.int _)=>true
 | some .bool=>true
 | some .string=>true
 | some (.slice e)=>L.contains e && Nat.ble 1 (P.cellsOf e)
 | some (.struct fs)=>fs.toList.all λf=>L.contains f.type
 | _=>false
def structB (P:Program) (t:TypeId):Bool:=match P.underlying t with
 | some (.struct _)=>true
 | _=>false
mutual
def A7 (P:Program):Ty->TypeId->Bool
 | .int k,t=>match P.underlying t with | some (.int k')=>decide (k'=k) | _=>false
 | .bool,t=>match P.underlying t with | some .bool=>true | _=>false
 | .str,t=>match P.underlying t with | some .string=>true | _=>false
 | .slice u,t=>match P.underlying t with | some (.slice e)=>Nat.beq (P.cellsOf e) u.sz && Nat.ble 1 u.sz && A7 P u e | _=>false
 | .struct fs,t=>match P.underlying t with | some (.struct gs)=>Nat.beq (P.cellsOf t) (Ty.szs fs) && Ch P fs gs.toList 0 | _=>false
 | .any n L,t=>JV P L && L.contains t && Nat.beq (P.cellsOf t) n && structB P t
def Ch (P:Program):List Ty->List Field->Nat->Bool
 | [],[],_=>true
 | t::ts,f::fs,off=>Nat.beq f.offset off && Nat.beq (P.cellsOf f.type) t.sz && A7 P t f.type && Ch P ts fs (off+t.sz)
 | _,_,_=>false
end

section
variable {H:Type} {enc:TypeId×Value->H} {P:Program} {W:World} {held:Bool} {sp:Nat->Bool}
theorem wC {base:Nat} {a:Addr} {n:Nat} {cs:List Value} (h:W.cells? base a n=some cs):cs.length=n/\∀ i,(hi:i<cs.length)->W.cell? (a.add i)=some cs[i]:=by
 obtain ⟨_,h1,h2⟩:=World.cells?_some h
 exact ⟨h1,λi hi=>by rw [h2 i (by omega),Zy hi]⟩
theorem cell_spot {a:Addr} {v:Value} (h:W.cell? a=some v):a.spot=none/\a.block<W.heap.size:=by
 unfold World.cell? at h
 cases hq:W.heap[a.block]? with
 | none=>rw [hq] at h; cases h
 | some o =>
  rw [hq] at h
  have hb:=(Array.getElem?_eq_some_iff.1 hq).1
  cases o with
  | cells c t f =>
   by_cases hs:a.spot.isSome=true
   ·simp [hs] at h
   ·exact ⟨by simpa using hs,hb⟩
  | _=>cases h

theorem xJ {W':World} (hb:∀ b,b<W.heap.size->W'.heap[b]? = W.heap[b]?) {base:Nat} {a:Addr} {n:Nat} {cs:List Value} (h:W.cells? base a n=some cs):W'.cells? base a n=some cs:=by
 cases n with
 | zero=>unfold World.cells? at h ⊢; simpa using h
 | succ n =>
  obtain ⟨h1,h2⟩:=wC h
  have h3:=h2 0<|by omega
  have hbl:a.block<W.heap.size:=by
   have:=(cell_spot h3).2
   simpa [Addr.add] using this
  have:∀ i,W'.cell? (a.add i)=W.cell? (a.add i):=λi=>World.cell?_of_block<|hb _ (by unfold Addr.add; split <;> exact hbl)
  unfold World.cells? at h ⊢
  simp only [this]; exact h
theorem lm {α β : Type} {f g : α -> Option β}:∀ {l:List α} {ys:List β},l.mapM f=some ys->(∀ x y,x∈l->y∈ys->f x=some y->g x=some y)->l.mapM g=some ys
 | [],ys,h,_=>Zo
 | a::l,ys,h,hfg=>by
  simp only [List.mapM_cons,Option.bind_eq_bind,Option.bind_eq_some_iff,Option.pure_def,Option.some.injEq] at h
  obtain ⟨y,h1,zs,h2,rfl⟩:=h
  simp only [List.mapM_cons,Option.bind_eq_bind,Option.bind_eq_some_iff,Option.pure_def,Option.some.injEq]
  exact ⟨y,hfg a y (by simp) (by simp) h1,zs,lm h2 λx z hx hz=>hfg x z (by simp [hx]) (by simp [hz]),Z⟩
theorem tL {W' : World} (hb : ∀ b, b < W.heap.size -> W'.heap[b]? = W.heap[b]?) {L : List TypeId} (hL : JV P L = true) : ∀ (n : Nat) (t : TypeId) (cs : List Value) (x : DataW H × List MemPlace), t ∈ L -> DataW.trod enc P W 0 (λ_ => true) held n t cs = some x ->
  (∀ p∈x.2,sp p.block=true)->DataW.trod enc P W' 0 sp held n t cs=some x
 | 0,t,cs,x,ht,h,_=>by simp [DataW.trod] at h
 | n + 1, t, cs, x, ht, h, hsp => by
  have hcl:=List.all_eq_true.1 hL t ht
  cases hu:P.underlying t with
  | none=>rw [hu] at hcl; cases hcl
  | some d =>
   rw [hu] at hcl
   cases d with
   | int k =>
    obtain ⟨q,rfl,rfl,h3⟩:=DataW.trod_int hu h
    simp [DataW.trod,hu,h3]
   | bool =>
    obtain ⟨q,rfl,rfl⟩:=DataW.trod_bool hu h
    simp [DataW.trod,hu]
   | string =>
    obtain ⟨q,rfl,rfl,h3⟩:=DataW.trod_string hu h
    simp [DataW.trod,hu,h3]
   | slice e =>
    simp only [Bool.and_eq_true] at hcl
    have he:e∈L:=by simpa using hcl.1
    have hp:1≤P.cellsOf e:=Nat.le_of_ble_eq_true hcl.2
    rcases DataW.trod_slice hu h with ⟨rfl,rfl⟩ | ⟨a,len,cap,_,_,_,_,rfl,_⟩
    ·simp [DataW.trod,hu]
    ·unfold DataW.trod at h ⊢
     rw [hu] at h ⊢
     simp only at h ⊢
     split at h
     ·rename_i hcond
      rw [if_pos hcond]
      simp only [if_true,Option.bind_eq_some_iff,Option.map_eq_some_iff] at h
      obtain ⟨elems,h1,rest,h2,rfl⟩:=h
      simp only [List.mem_append,List.mem_flatMap] at hsp
      have hstep:∀ i y,y∈elems++rest->(W.cells? 0 (a.add (i * P.cellsOf e))<|P.cellsOf e).bind (DataW.trod enc P W 0 (λ_=>true) held n e)=some y->(W'.cells? 0 (a.add (i * P.cellsOf e))<|P.cellsOf e).bind (DataW.trod enc P W' 0 sp held n e)=some y:=λi y hy hb'=>by
       rw [Option.bind_eq_some_iff] at hb' ⊢
       obtain ⟨us,g1,g2⟩:=hb'
       exact ⟨us,xJ hb g1,tL hb hL n e us y he g2 λp hp'=>hsp p<|.inr ⟨y,List.mem_append.1 hy,hp'⟩⟩
      have e1:(List.range len).mapM (λi=>(W'.cells? 0 (a.add (i * P.cellsOf e))<|P.cellsOf e).bind<|DataW.trod enc P W' 0 sp held n e)=some elems:=lm h1 λi y _ hy g=>hstep i y (List.mem_append_left _ hy) g
      have e2:(List.range (cap - len)).mapM (λj=>(W'.cells? 0 (a.add ((len+j) * P.cellsOf e))<|P.cellsOf e).bind<|DataW.trod enc P W' 0 sp held n e)=some rest:=lm h2 λi y _ hy g=>hstep (len+i) y (List.mem_append_right _ hy) g
      rw [e1]
      simp only [Option.bind_some]
      by_cases hs:sp a.block=true
      ·rw [if_pos hs,e2]; rfl
      ·rw [if_neg hs]
       have hr : rest = [] := by
        cases rest with
        | nil=>rfl
        | cons y ys =>
         exfalso
         apply hs
         have:=hsp (MemPlace.cell a.block a.off)<|.inl ?_
         ·exact this
         ·unfold MemPlace.row
          refine List.mem_map.2 ⟨0,?_,by simp [Addr.add]⟩
          rw [List.mem_range]
          simp only [List.length_cons]
          exact Nat.mul_pos (by omega)<|by omega
       subst hr; rfl
     ·cases h
   | struct gs =>
    rw [List.all_eq_true] at hcl
    unfold DataW.trod at h ⊢
    rw [hu] at h ⊢
    simp only at h ⊢
    split at h
    ·rename_i hl
     rw [if_pos hl]
     rw [Option.map_eq_some_iff] at h ⊢
     obtain ⟨xs,h1,rfl⟩:=h
     refine ⟨xs,lm h1 λg y hg hy h2=>?_,Z⟩
     exact tL hb hL n g.type _ y (by simpa using hcl g hg) h2 λp hp=>hsp p<|List.mem_flatMap.2 ⟨y,hy,hp⟩
    ·cases h
   | _=>cases hcl
mutual
theorem wD {W' : World} (hb : ∀ b, b < W.heap.size -> W'.heap[b]? = W.heap[b]?) : (ty : Ty) -> ∀ (t : TypeId) (n : Nat) (cs : List Value) (x : DataW H × List MemPlace), A7 P ty t = true -> DataW.trod enc P W 0 (λ_ => true) held n t cs = some x ->
  (∀ p∈x.2,sp p.block=true)->DataW.trod enc P W' 0 sp held n t cs=some x
 | .int k, t, n, cs, x, hf, h, _ => by
  unfold A7 at hf
  cases n with
  | zero=>simp [DataW.trod] at h
  | succ n =>
   cases hu:P.underlying t with
   | none=>rw [hu] at hf; cases hf
   | some d =>
    rw [hu] at hf
    cases d <;> try (cases hf; done)
    obtain ⟨q,rfl,rfl,h3⟩:=DataW.trod_int hu h
    simp [DataW.trod,hu,h3]
 | .bool, t, n, cs, x, hf, h, _ => by
  unfold A7 at hf
  cases n with
  | zero=>simp [DataW.trod] at h
  | succ n =>
   cases hu:P.underlying t with
   | none=>rw [hu] at hf; cases hf
   | some d =>
    rw [hu] at hf
    cases d <;> try (cases hf; done)
    obtain ⟨q,rfl,rfl⟩:=DataW.trod_bool hu h
    simp [DataW.trod,hu]
 | .str, t, n, cs, x, hf, h, _ => by
  unfold A7 at hf
  cases n with
  | zero=>simp [DataW.trod] at h
  | succ n =>
   cases hu:P.underlying t with
   | none=>rw [hu] at hf; cases hf
   | some d =>
    rw [hu] at hf
    cases d <;> try (cases hf; done)
    obtain ⟨q,rfl,rfl,h3⟩:=DataW.trod_string hu h
    simp [DataW.trod,hu,h3]
 | .slice u, t, n, cs, x, hf, h, hsp => by
  unfold A7 at hf
  cases hu:P.underlying t with
  | none=>rw [hu] at hf; cases hf
  | some d =>
   rw [hu] at hf
   cases d <;> try (cases hf; done)
   rename_i e
   simp only [Bool.and_eq_true] at hf
   obtain ⟨⟨hc,hp⟩,he⟩:=hf
   have hc:P.cellsOf e=u.sz:=Nat.eq_of_beq_eq_true hc
   have hp:1≤u.sz:=Nat.le_of_ble_eq_true hp
   cases n with
   | zero=>simp [DataW.trod] at h
   | succ n =>
    rcases DataW.trod_slice hu h with ⟨rfl,rfl⟩ | ⟨a,len,cap,_,_,_,_,rfl,_⟩
    ·simp [DataW.trod,hu]
    ·unfold DataW.trod at h ⊢
     rw [hu] at h ⊢
     simp only at h ⊢
     split at h
     ·rename_i hcond
      rw [if_pos hcond]
      simp only [if_true,Option.bind_eq_some_iff,Option.map_eq_some_iff] at h
      obtain ⟨elems,h1,rest,h2,rfl⟩:=h
      simp only [List.mem_append,List.mem_flatMap] at hsp
      have hstep:∀ i y,y∈elems++rest->(W.cells? 0 (a.add (i * P.cellsOf e))<|P.cellsOf e).bind (DataW.trod enc P W 0 (λ_=>true) held n e)=some y->(W'.cells? 0 (a.add (i * P.cellsOf e))<|P.cellsOf e).bind (DataW.trod enc P W' 0 sp held n e)=some y:=λi y hy hb'=>by
       rw [Option.bind_eq_some_iff] at hb' ⊢
       obtain ⟨us,g1,g2⟩:=hb'
       exact ⟨us,xJ hb g1,wD hb u e n us y he g2 λp hp'=>hsp p<|.inr ⟨y,List.mem_append.1 hy,hp'⟩⟩
      have e1:(List.range len).mapM (λi=>(W'.cells? 0 (a.add (i * P.cellsOf e))<|P.cellsOf e).bind<|DataW.trod enc P W' 0 sp held n e)=some elems:=lm h1 λi y _ hy g=>hstep i y (List.mem_append_left _ hy) g
      have e2:(List.range (cap - len)).mapM (λj=>(W'.cells? 0 (a.add ((len+j) * P.cellsOf e))<|P.cellsOf e).bind<|DataW.trod enc P W' 0 sp held n e)=some rest:=lm h2 λi y _ hy g=>hstep (len+i) y (List.mem_append_right _ hy) g
      rw [e1]
      simp only [Option.bind_some]
      by_cases hs:sp a.block=true
      ·rw [if_pos hs,e2]; rfl
      ·rw [if_neg hs]
       have hr : rest = [] := by
        cases rest with
        | nil=>rfl
        | cons y ys =>
         exfalso
         apply hs
         have:=hsp (MemPlace.cell a.block a.off)<|.inl ?_
         ·exact this
         ·unfold MemPlace.row
          rw [hc]
          refine List.mem_map.2 ⟨0,?_,by simp [Addr.add]⟩
          rw [List.mem_range]
          simp only [List.length_cons]
          exact Nat.mul_pos (by omega)<|by omega
       subst hr; rfl
     ·cases h
 | .struct fs, t, n, cs, x, hf, h, hsp => by
  unfold A7 at hf
  cases hu:P.underlying t with
  | none=>rw [hu] at hf; cases hf
  | some d =>
   rw [hu] at hf
   cases d <;> try (cases hf; done)
   rename_i gs
   simp only [Bool.and_eq_true] at hf
   obtain ⟨hc,hfs⟩:=hf
   cases n with
   | zero=>simp [DataW.trod] at h
   | succ n =>
    unfold DataW.trod at h ⊢
    rw [hu] at h ⊢
    simp only at h ⊢
    split at h
    ·rename_i hl
     rw [if_pos hl]
     rw [Option.map_eq_some_iff] at h ⊢
     obtain ⟨xs,h1,rfl⟩:=h
     refine ⟨xs,?_,Z⟩
     exact zB hb fs gs.toList 0 n cs xs hfs h1 λy hy p hp=>hsp p<|List.mem_flatMap.2 ⟨y,hy,hp⟩
    ·cases h
 | .any k L,t,n,cs,x,hf,h,hsp=>by
  unfold A7 at hf
  simp only [Bool.and_eq_true] at hf
  obtain ⟨⟨⟨hL,ht⟩,_⟩,_⟩:=hf
  exact tL hb hL n t cs x (by simpa using ht) h hsp
theorem zB {W':World} (hb:∀ b,b<W.heap.size->W'.heap[b]? = W.heap[b]?):(fs:List Ty)->∀ (gs:List Field) (off n:Nat) (cs:List Value) (xs:List (DataW H×List MemPlace)),Ch P fs gs off=true ->
  gs.mapM (λf=>DataW.trod enc P W 0 (λ_=>true) held n f.type<|(cs.drop f.offset).take<|P.cellsOf f.type)=some xs->(∀ y∈xs,∀ p∈y.2,sp p.block=true) ->
  gs.mapM (λf=>DataW.trod enc P W' 0 sp held n f.type<|(cs.drop f.offset).take<|P.cellsOf f.type)=some xs
 | [],[],off,n,cs,xs,hf,h,_=>Zo
 | [],g::gs,off,n,cs,xs,hf,h,_=>by simp [Ch] at hf
 | t::ts,[],off,n,cs,xs,hf,h,_=>by simp [Ch] at hf
 | t::ts,g::gs,off,n,cs,xs,hf,h,hsp=>by
  unfold Ch at hf
  simp only [Bool.and_eq_true] at hf
  obtain ⟨⟨⟨h1,h2⟩,h3⟩,h4⟩:=hf
  simp only [List.mapM_cons,Option.bind_eq_bind,Option.bind_eq_some_iff,Option.pure_def,Option.some.injEq] at h ⊢
  obtain ⟨y,g1,zs,g2,rfl⟩:=h
  exact ⟨y,wD hb t g.type n _ y h3 g1 (hsp y<|by simp),zs,zB hb ts gs (off+t.sz) n cs zs h4 g2 λz hz=>hsp z (by simp [hz]),Z⟩
end
end
theorem wE (W:World):Holds W [old W]:=⟨λ_ _=>rfl,λ_ _ h=>h,trivial⟩
structure Kept (W w':World):Prop extends Same W w' where
 block:∀ b,b<W.heap.size->w'.heap[b]? = W.heap[b]?
theorem Kept.frame {W w':World} (h:Kept W w') (may:MemPlace->Prop):W.keptBut w' may:=by
 refine ⟨h.os,h.output,λi hi=>?_⟩
 rw [h.block i hi]
 cases hq:W.heap[i]? with
 | none=>rfl
 | some o=>cases o <;> first | exact ⟨rfl,rfl,rfl,λ_ _=>rfl⟩ | exact Or.inr ⟨rfl,rfl⟩ | rfl
def fitAll (P:Program):List Ty->List TypeId->Bool
 | [],[]=>true
 | t::ts,u::us=>A7 P t u && fitAll P ts us
 | _,_=>false
section
variable {H:Type} {enc:TypeId×Value->H} {P:Program} {W W':World} {sp:Nat->Bool}
theorem Ci (hb:∀ b,b<W.heap.size->W'.heap[b]? = W.heap[b]?):∀ {tys:List Ty} {ts:List TypeId} {vs:List Value} {ds:List (DataW H)} {ps:List MemPlace},fitAll P tys ts=true->DataW.TrodAll enc P W 0 (λ_=>true) true ts vs ds ps->(∀ p∈ps,sp p.block=true) ->
  DataW.TrodAll enc P W' 0 sp true ts vs ds ps
 | [],[],[],[],ps,_,h,_=>h
 | [],[],[],_::_,ps,_,h,_=>h.elim
 | [],[],_::_,_,ps,_,h,_=>h.elim
 | [],_::_,_,_,_,hf,_,_=>by simp [fitAll] at hf
 | _::_,[],_,_,_,hf,_,_=>by simp [fitAll] at hf
 | ty::tys,t::ts,[],_,ps,_,h,_=>h.elim
 | ty::tys,t::ts,_::_,[],ps,_,h,_=>h.elim
 | ty::tys,t::ts,v::vs,d::ds,ps,hf,h,hp=>by
  unfold fitAll at hf
  rw [Bool.and_eq_true] at hf
  obtain ⟨p,q,⟨n,h1⟩,h2,rfl⟩:=h
  exact ⟨p,q,⟨n,wD hb ty t n _ _ hf.1 h1 λx hx=>hp x<|List.mem_append_left _ hx⟩,Ci hb hf.2 h2 λx hx=>hp x (List.mem_append_right _ hx),Z⟩
theorem zC {t:TypeId} {v:Value} {b:Nat} (hs:(match P.underlying t with | some (.struct _) | some (.array _ _)=>false | some _=>true | none=>false)=true) (h:Value.okWide P W .any b t v):v.oneCell'=true:=by
 unfold Value.okWide at h
 cases hu:P.underlying t with
 | none=>rw [hu] at hs; cases hs
 | some d =>
  rw [hu] at h hs
  cases d <;> first
   | (cases hs; done)
   | (cases v <;> first | rfl | (unfold Cell.okWide at h; rw [hu] at h; simp only [Cell.ok,hu] at h))
end
end Go.Ck
namespace Go.Proofs.YtknmacdbffgjgaaGreatDoor
open Go.Ck
namespace Fx
theorem mixed:Tryz.prog.follows .mixedOrders=true:=Zz
theorem sz3:Sz Tryz.prog 3 1:=λ_=>Zz
theorem sz4:Sz Tryz.prog 4 1:=λ_=>Zz
theorem sz9:Sz Tryz.prog 9 1:=λ_=>Zz
theorem sz24:Sz Tryz.prog 24 2:=λ_=>Zz
theorem wF:Sz Tryz.prog 26 8:=λ_=>Zz
theorem DL:Sz Tryz.prog 29 1:=λ_=>Zz
theorem yn:Sz Tryz.prog 40 1:=λ_=>Zz
theorem sz42:Sz Tryz.prog 42 1:=λ_=>Zz
theorem mq:Sz Tryz.prog 44 7:=λ_=>Zz
theorem sz52:Sz Tryz.prog 52 1:=λ_=>Zz
theorem nk:Sz Tryz.prog 53 1:=λ_=>Zz
theorem wG:Sz Tryz.prog 55 4:=λ_=>Zz
theorem Fp:Sz Tryz.prog 67 1:=λ_=>Zz
theorem sz69:Sz Tryz.prog 69 2:=λ_=>Zz
theorem sz70:Sz Tryz.prog 70 1:=λ_=>Zz
theorem sz71:Sz Tryz.prog 71 1:=λ_=>Zz
theorem nY:Sz Tryz.prog 73 5:=λ_=>Zz
theorem gF:Sz Tryz.prog 75 14:=λ_=>Zz
theorem sH:Sz Tryz.prog 88 6:=λ_=>Zz
theorem sz111:Sz Tryz.prog 111 2:=λ_=>Zz
theorem sz114:Sz Tryz.prog 114 2:=λ_=>Zz
theorem ji:Sz Tryz.prog 116 12:=λ_=>Zz
theorem jX:Sz Tryz.prog 130 15:=λ_=>Zz
theorem Cj:Sz Tryz.prog 132 6:=λ_=>Zz
theorem zD:Sz Tryz.prog 143 2:=λ_=>Zz
theorem sz162:Sz Tryz.prog 162 1:=λ_=>Zz
theorem nZ:Sz Tryz.prog 164 2:=λ_=>Zz
theorem zF:Sz Tryz.prog 170 2:=λ_=>Zz
theorem sz188:Sz Tryz.prog 188 1:=λ_=>Zz
theorem mM:Sz Tryz.prog 191 18:=λ_=>Zz
theorem sz206:Sz Tryz.prog 206 12:=λ_=>Zz
theorem sz214:Sz Tryz.prog 214 1:=λ_=>Zz
theorem zG:Sz Tryz.prog 216 4:=λ_=>Zz
theorem Cn:Sz Tryz.prog 218 5:=λ_=>Zz
theorem sz250:Sz Tryz.prog 250 1:=λ_=>Zz
theorem sz256:Sz Tryz.prog 256 1:=λ_=>Zz
theorem sz265:Sz Tryz.prog 265 1:=λ_=>Zz
theorem sz281:Sz Tryz.prog 281 1:=λ_=>Zz
theorem vz:SlE Tryz.prog 22 44 7:=⟨Tryz.underlying22,mq⟩
theorem sl32:SlE Tryz.prog 32 55 4:=⟨Tryz.underlying32,wG⟩
theorem sl38:SlE Tryz.prog 38 111 2:=⟨Tryz.underlying38,sz111⟩
theorem oW:SlE Tryz.prog 39 88 6:=⟨Tryz.underlying39,sH⟩
theorem iZ:SlE Tryz.prog 40 9 1:=⟨Tryz.underlying40,sz9⟩
theorem sl41:SlE Tryz.prog 41 130 15:=⟨Tryz.underlying41,jX⟩
theorem Fq:SlE Tryz.prog 42 218 5:=⟨Tryz.underlying42,Cn⟩
theorem kQ:SlE Tryz.prog 52 75 14:=⟨Tryz.underlying52,gF⟩
theorem Fs:SlE Tryz.prog 53 170 2:=⟨Tryz.underlying53,zF⟩
theorem oh:SlE Tryz.prog 67 69 2:=⟨Tryz.underlying67,sz69⟩
theorem zH:SlE Tryz.prog 70 132 6:=⟨Tryz.underlying70,Cj⟩
theorem yt:SlE Tryz.prog 71 73 5:=⟨Tryz.underlying71,nY⟩
theorem sl86:SlE Tryz.prog 86 143 2:=⟨Tryz.underlying86,zD⟩
theorem sl104:SlE Tryz.prog 104 24 2:=⟨Tryz.underlying104,sz24⟩
theorem lJ:SlE Tryz.prog 187 191 18:=⟨Tryz.underlying187,mM⟩
theorem Co:SlE Tryz.prog 214 216 4:=⟨Tryz.underlying214,zG⟩
theorem sl282:SlE Tryz.prog 282 281 1:=⟨Tryz.underlying282,sz281⟩
theorem sl312:SlE Tryz.prog 312 53 1:=⟨Tryz.underlying312,nk⟩
theorem sl325:SlE Tryz.prog 325 40 1:=⟨Tryz.underlying325,yn⟩
theorem sl333:SlE Tryz.prog 333 3 1:=⟨Tryz.underlying333,sz3⟩
theorem qj:MpS Tryz.prog 112 9 55:=⟨Tryz.underlying112,Tryz.underlying9⟩
theorem gQ:MpS Tryz.prog 162 9 3:=⟨Tryz.underlying162,Tryz.underlying9⟩
theorem sQ:MpS Tryz.prog 188 9 187:=⟨Tryz.underlying188,Tryz.underlying9⟩
theorem mp250:MpT Tryz.prog 250 3 4:=⟨Tryz.underlying250,Tryz.underlying3⟩
theorem xK:MpS Tryz.prog 265 9 4:=⟨Tryz.underlying265,Tryz.underlying9⟩
theorem om:Inf Tryz.prog 3 (.int .i64 0) 1 8:=by unfold Inf; kernel_rfl
theorem inf4:Inf Tryz.prog 4 (.bool false) 1 1:=by unfold Inf; kernel_rfl
theorem fP:Inf Tryz.prog 9 (.string ⟨#[]⟩) 1 16:=by unfold Inf; kernel_rfl
theorem JW:Inf Tryz.prog 24 (.agg #[.string ⟨#[]⟩,.string ⟨#[]⟩]) 2 32:=by unfold Inf; kernel_rfl
theorem inf40:Inf Tryz.prog 40 (.slice none 0 0) 1 24:=by unfold Inf; kernel_rfl
theorem inf44:Inf Tryz.prog 44 (.agg #[.string ⟨#[]⟩,.bool false,.slice none 0 0,.slice none 0 0,.slice none 0 0,.slice none 0 0,.slice none 0 0]) 7 144:=by unfold Inf; kernel_rfl
theorem sS:Inf Tryz.prog 53 (.slice none 0 0) 1 24:=by unfold Inf; kernel_rfl
theorem ql:Inf Tryz.prog 55 (.agg #[.string ⟨#[]⟩,.bool false,.slice none 0 0,.slice none 0 0]) 4 72:=by unfold Inf; kernel_rfl
theorem Cr:Inf Tryz.prog 69 (.agg #[.string ⟨#[]⟩,.string ⟨#[]⟩]) 2 32:=by unfold Inf; kernel_rfl
theorem JX:Inf Tryz.prog 73 (.agg #[.int .i64 0,.string ⟨#[]⟩,.slice none 0 0,.bool false,.bool false]) 5 56:=by unfold Inf; kernel_rfl
theorem vB:Inf Tryz.prog 75 (.agg #[.string ⟨#[]⟩,.int .i64 0,.slice none 0 0,.string ⟨#[]⟩,.string ⟨#[]⟩,.slice none 0 0,.int .i64 0,.string ⟨#[]⟩,.slice none 0 0,.bool false,.bool false,.slice none 0 0,.slice none 0 0,.slice none 0 0]) 14 232:=by unfold Inf; kernel_rfl
theorem inf88:Inf Tryz.prog 88 (.agg #[.string ⟨#[]⟩,.slice none 0 0,.slice none 0 0,.slice none 0 0,.slice none 0 0,.slice none 0 0]) 6 136:=by unfold Inf; kernel_rfl
theorem inf111:Inf Tryz.prog 111 (.agg #[.string ⟨#[]⟩,.string ⟨#[]⟩]) 2 32:=by unfold Inf; kernel_rfl
theorem Nk:Inf Tryz.prog 130 (.agg #[.int .i64 0,.string ⟨#[]⟩,.slice none 0 0,.slice none 0 0,.int .i64 0,.string ⟨#[]⟩,.slice none 0 0,.bool false,.bool false,.slice none 0 0,.slice none 0 0,.slice none 0 0,.slice none 0 0,.slice none 0 0,.bool false]) 15 256:=by unfold Inf; kernel_rfl
theorem DN:Inf Tryz.prog 132 (.agg #[.string ⟨#[]⟩,.int .i64 0,.string ⟨#[]⟩,.slice none 0 0,.bool false,.bool false]) 6 72:=by unfold Inf; kernel_rfl
theorem inf143:Inf Tryz.prog 143 (.agg #[.string ⟨#[]⟩,.string ⟨#[]⟩]) 2 32:=by unfold Inf; kernel_rfl
theorem nu:Inf Tryz.prog 170 (.agg #[.string ⟨#[]⟩,.slice none 0 0]) 2 40:=by unfold Inf; kernel_rfl
theorem tN:Inf Tryz.prog 187 (.slice none 0 0) 1 24:=by unfold Inf; kernel_rfl
theorem zI:Inf Tryz.prog 191 (.agg #[.string ⟨#[]⟩,.string ⟨#[]⟩,.int .i64 0,.string ⟨#[]⟩,.int .i64 0,.slice none 0 0,.string ⟨#[]⟩,.string ⟨#[]⟩,.slice none 0 0,.int .i64 0,.string ⟨#[]⟩,.slice none 0 0,.bool false,.bool false,.slice none 0 0,.slice none 0 0,.slice none 0 0,.int .i64 0]) 18 280:=by unfold Inf; kernel_rfl
theorem Nl:Inf Tryz.prog 216 (.agg #[.int .i64 0,.string ⟨#[]⟩,.int .i64 0,.slice none 0 0]) 4 56:=by unfold Inf; kernel_rfl
theorem Nn:Inf Tryz.prog 218 (.agg #[.string ⟨#[]⟩,.int .i64 0,.string ⟨#[]⟩,.int .i64 0,.slice none 0 0]) 5 72:=by unfold Inf; kernel_rfl
theorem inf281:Inf Tryz.prog 281 (.nilFunc) 1 8:=by unfold Inf; kernel_rfl
theorem ld3:Ld1 Tryz.prog 3:=Ld1.of Tryz.underlying3 rfl
theorem ld4:Ld1 Tryz.prog 4:=Ld1.of Tryz.underlying4 rfl
theorem ld9:Ld1 Tryz.prog 9:=Ld1.of Tryz.underlying9 rfl
theorem ld22:Ld1 Tryz.prog 22:=Ld1.of Tryz.underlying22 rfl
theorem qC:LdN Tryz.prog 24 2:=LdN.of Tryz.underlying24 sz24
theorem tO:LdN Tryz.prog 26 8:=LdN.of Tryz.underlying26 wF
theorem A8:Ld1 Tryz.prog 29:=Ld1.of Tryz.underlying29 rfl
theorem ld38:Ld1 Tryz.prog 38:=Ld1.of Tryz.underlying38 rfl
theorem mr:Ld1 Tryz.prog 39:=Ld1.of Tryz.underlying39 rfl
theorem fq:Ld1 Tryz.prog 40:=Ld1.of Tryz.underlying40 rfl
theorem yu:Ld1 Tryz.prog 41:=Ld1.of Tryz.underlying41 rfl
theorem tQ:Ld1 Tryz.prog 42:=Ld1.of Tryz.underlying42 rfl
theorem gL:LdN Tryz.prog 44 7:=LdN.of Tryz.underlying44 mq
theorem lK:Ld1 Tryz.prog 52:=Ld1.of Tryz.underlying52 rfl
theorem lL:Ld1 Tryz.prog 53:=Ld1.of Tryz.underlying53 rfl
theorem tT:LdN Tryz.prog 55 4:=LdN.of Tryz.underlying55 wG
theorem nz:Ld1 Tryz.prog 67:=Ld1.of Tryz.underlying67 rfl
theorem gM:LdN Tryz.prog 69 2:=LdN.of Tryz.underlying69 sz69
theorem qU:Ld1 Tryz.prog 70:=Ld1.of Tryz.underlying70 rfl
theorem oZ:Ld1 Tryz.prog 71:=Ld1.of Tryz.underlying71 rfl
theorem fD:LdN Tryz.prog 73 5:=LdN.of Tryz.underlying73 nY
theorem dJ:LdN Tryz.prog 75 14:=LdN.of Tryz.underlying75 gF
theorem ld86:Ld1 Tryz.prog 86:=Ld1.of Tryz.underlying86 rfl
theorem qD:LdN Tryz.prog 88 6:=LdN.of Tryz.underlying88 sH
theorem JY:LdN Tryz.prog 111 2:=LdN.of Tryz.underlying111 sz111
theorem qm:Ld1 Tryz.prog 112:=Ld1.of Tryz.underlying112 rfl
theorem gZ:LdN Tryz.prog 114 2:=LdN.of Tryz.underlying114 sz114
theorem lM:LdN Tryz.prog 116 12:=LdN.of Tryz.underlying116 ji
theorem oq:LdN Tryz.prog 130 15:=LdN.of Tryz.underlying130 jX
theorem vC:LdN Tryz.prog 132 6:=LdN.of Tryz.underlying132 Cj
theorem qV:LdN Tryz.prog 143 2:=LdN.of Tryz.underlying143 zD
theorem kI:Ld1 Tryz.prog 162:=Ld1.of Tryz.underlying162 rfl
theorem kJ:LdN Tryz.prog 164 2:=LdN.of Tryz.underlying164 nZ
theorem lQ:LdN Tryz.prog 170 2:=LdN.of Tryz.underlying170 zF
theorem ld186:Ld1 Tryz.prog 186:=Ld1.of Tryz.underlying186 rfl
theorem qW:Ld1 Tryz.prog 188:=Ld1.of Tryz.underlying188 rfl
theorem ic:LdN Tryz.prog 191 18:=LdN.of Tryz.underlying191 mM
theorem ld197:Ld1 Tryz.prog 197:=Ld1.of Tryz.underlying197 rfl
theorem fH:LdN Tryz.prog 206 12:=LdN.of Tryz.underlying206 sz206
theorem sU:Ld1 Tryz.prog 214:=Ld1.of Tryz.underlying214 rfl
theorem jY:LdN Tryz.prog 216 4:=LdN.of Tryz.underlying216 zG
theorem xL:LdN Tryz.prog 218 5:=LdN.of Tryz.underlying218 Cn
theorem ld229:Ld1 Tryz.prog 229:=Ld1.of Tryz.underlying229 rfl
theorem ld249:Ld1 Tryz.prog 249:=Ld1.of Tryz.underlying249 rfl
theorem ld250:Ld1 Tryz.prog 250:=Ld1.of Tryz.underlying250 rfl
theorem ld256:Ld1 Tryz.prog 256:=Ld1.of Tryz.underlying256 rfl
theorem ld265:Ld1 Tryz.prog 265:=Ld1.of Tryz.underlying265 rfl
theorem ld281:Ld1 Tryz.prog 281:=Ld1.of Tryz.underlying281 rfl
theorem Np:Fa Tryz.prog 26 1 1:=λ_ _ _=>Zz
theorem DR:Fa Tryz.prog 26 3 3:=λ_ _ _=>Zz
theorem dN:Fa Tryz.prog 44 0 0:=λ_ _ _=>Zz
theorem Nq:Fa Tryz.prog 44 1 1:=λ_ _ _=>Zz
theorem DT:Fa Tryz.prog 44 2 2:=λ_ _ _=>Zz
theorem fu:Fa Tryz.prog 44 3 3:=λ_ _ _=>Zz
theorem fa44_4:Fa Tryz.prog 44 4 4:=λ_ _ _=>Zz
theorem kF:Fa Tryz.prog 44 5 5:=λ_ _ _=>Zz
theorem Nr:Fa Tryz.prog 44 6 6:=λ_ _ _=>Zz
theorem wH:Fa Tryz.prog 55 0 0:=λ_ _ _=>Zz
theorem DU:Fa Tryz.prog 55 1 1:=λ_ _ _=>Zz
theorem iO:Fa Tryz.prog 55 2 2:=λ_ _ _=>Zz
theorem qX:Fa Tryz.prog 55 3 3:=λ_ _ _=>Zz
theorem wI:Fa Tryz.prog 69 0 0:=λ_ _ _=>Zz
theorem wJ:Fa Tryz.prog 69 1 1:=λ_ _ _=>Zz
theorem qY:Fa Tryz.prog 73 0 0:=λ_ _ _=>Zz
theorem zJ:Fa Tryz.prog 73 1 1:=λ_ _ _=>Zz
theorem ja:Fa Tryz.prog 73 2 2:=λ_ _ _=>Zz
theorem o5:Fa Tryz.prog 73 3 3:=λ_ _ _=>Zz
theorem o6:Fa Tryz.prog 73 4 4:=λ_ _ _=>Zz
theorem dC:Fa Tryz.prog 75 0 0:=λ_ _ _=>Zz
theorem o7:Fa Tryz.prog 75 1 1:=λ_ _ _=>Zz
theorem dP:Fa Tryz.prog 75 2 2:=λ_ _ _=>Zz
theorem qZ:Fa Tryz.prog 75 3 3:=λ_ _ _=>Zz
theorem jL:Fa Tryz.prog 75 4 5:=λ_ _ _=>Zz
theorem nD:Fa Tryz.prog 75 5 6:=λ_ _ _=>Zz
theorem wL:Fa Tryz.prog 75 6 11:=λ_ _ _=>Zz
theorem ig:Fa Tryz.prog 75 7 12:=λ_ _ _=>Zz
theorem ik:Fa Tryz.prog 75 8 13:=λ_ _ _=>Zz
theorem gN:Fa Tryz.prog 88 0 0:=λ_ _ _=>Zz
theorem wM:Fa Tryz.prog 88 1 1:=λ_ _ _=>Zz
theorem zK:Fa Tryz.prog 88 2 2:=λ_ _ _=>Zz
theorem wN:Fa Tryz.prog 88 3 3:=λ_ _ _=>Zz
theorem wO:Fa Tryz.prog 88 4 4:=λ_ _ _=>Zz
theorem zL:Fa Tryz.prog 88 5 5:=λ_ _ _=>Zz
theorem JZ:Fa Tryz.prog 111 0 0:=λ_ _ _=>Zz
theorem J2:Fa Tryz.prog 114 0 0:=λ_ _ _=>Zz
theorem iX:Fa Tryz.prog 114 1 1:=λ_ _ _=>Zz
theorem gT:Fa Tryz.prog 116 0 0:=λ_ _ _=>Zz
theorem DV:Fa Tryz.prog 116 1 2:=λ_ _ _=>Zz
theorem J3:Fa Tryz.prog 116 2 3:=λ_ _ _=>Zz
theorem vD:Fa Tryz.prog 116 3 11:=λ_ _ _=>Zz
theorem vE:Fa Tryz.prog 130 0 0:=λ_ _ _=>Zz
theorem o8:Fa Tryz.prog 130 1 1:=λ_ _ _=>Zz
theorem J4:Fa Tryz.prog 130 2 2:=λ_ _ _=>Zz
theorem rV:Fa Tryz.prog 130 3 3:=λ_ _ _=>Zz
theorem yG:Fa Tryz.prog 130 4 4:=λ_ _ _=>Zz
theorem yH:Fa Tryz.prog 130 6 10:=λ_ _ _=>Zz
theorem yI:Fa Tryz.prog 130 7 11:=λ_ _ _=>Zz
theorem yJ:Fa Tryz.prog 132 0 0:=λ_ _ _=>Zz
theorem jV:Fa Tryz.prog 132 1 1:=λ_ _ _=>Zz
theorem yK:Fa Tryz.prog 143 0 0:=λ_ _ _=>Zz
theorem J5:Fa Tryz.prog 143 1 1:=λ_ _ _=>Zz
theorem DW:Fa Tryz.prog 164 0 0:=λ_ _ _=>Zz
theorem DX:Fa Tryz.prog 164 1 1:=λ_ _ _=>Zz
theorem yL:Fa Tryz.prog 170 0 0:=λ_ _ _=>Zz
theorem rW:Fa Tryz.prog 170 1 1:=λ_ _ _=>Zz
theorem jw:Fa Tryz.prog 191 0 0:=λ_ _ _=>Zz
theorem yM:Fa Tryz.prog 191 1 2:=λ_ _ _=>Zz
theorem dW:Fa Tryz.prog 191 2 3:=λ_ _ _=>Zz
theorem fa191_3:Fa Tryz.prog 191 3 17:=λ_ _ _=>Zz
theorem DY:Fa Tryz.prog 206 0 0:=λ_ _ _=>Zz
theorem gU:Fa Tryz.prog 206 1 2:=λ_ _ _=>Zz
theorem mO:Fa Tryz.prog 206 2 9:=λ_ _ _=>Zz
theorem o9:Fa Tryz.prog 206 3 10:=λ_ _ _=>Zz
theorem pg:Fa Tryz.prog 206 4 11:=λ_ _ _=>Zz
theorem yN:Fa Tryz.prog 216 0 0:=λ_ _ _=>Zz
theorem yO:Fa Tryz.prog 216 1 1:=λ_ _ _=>Zz
theorem yP:Fa Tryz.prog 216 2 2:=λ_ _ _=>Zz
theorem jA:Fa Tryz.prog 216 3 3:=λ_ _ _=>Zz
theorem yQ:Fa Tryz.prog 218 0 0:=λ_ _ _=>Zz
theorem pE:Fa Tryz.prog 218 1 1:=λ_ _ _=>Zz
theorem al4:Al Tryz.prog 4 [.bool false]:=λ_=>Zz
theorem al24:Al Tryz.prog 24 [.string ⟨#[]⟩,.string ⟨#[]⟩]:=λ_=>Zz
theorem DZ:Al Tryz.prog 26 [.int .i64 0,.string ⟨#[]⟩,.string ⟨#[]⟩,.string ⟨#[]⟩,.string ⟨#[]⟩,.string ⟨#[]⟩,.string ⟨#[]⟩,.string ⟨#[]⟩]:=λ_=>Zz
theorem al29:Al Tryz.prog 29 [.int .i64 0]:=λ_=>Zz
theorem al40:Al Tryz.prog 40 [.slice none 0 0]:=λ_=>Zz
theorem oz:Al Tryz.prog 44 [.string ⟨#[]⟩,.bool false,.slice none 0 0,.slice none 0 0,.slice none 0 0,.slice none 0 0,.slice none 0 0]:=λ_=>Zz
theorem A9:Al Tryz.prog 55 [.string ⟨#[]⟩,.bool false,.slice none 0 0,.slice none 0 0]:=λ_=>Zz
theorem al69:Al Tryz.prog 69 [.string ⟨#[]⟩,.string ⟨#[]⟩]:=λ_=>Zz
theorem zM:Al Tryz.prog 73 [.int .i64 0,.string ⟨#[]⟩,.slice none 0 0,.bool false,.bool false]:=λ_=>Zz
theorem iR:Al Tryz.prog 75 [.string ⟨#[]⟩,.int .i64 0,.slice none 0 0,.string ⟨#[]⟩,.string ⟨#[]⟩,.slice none 0 0,.int .i64 0,.string ⟨#[]⟩,.slice none 0 0,.bool false,.bool false,.slice none 0 0,.slice none 0 0,.slice none 0 0]:=λ_=>Zz
theorem vG:Al Tryz.prog 88 [.string ⟨#[]⟩,.slice none 0 0,.slice none 0 0,.slice none 0 0,.slice none 0 0,.slice none 0 0]:=λ_=>Zz
theorem al111:Al Tryz.prog 111 [.string ⟨#[]⟩,.string ⟨#[]⟩]:=λ_=>Zz
theorem al114:Al Tryz.prog 114 [.slice none 0 0,.map none]:=λ_=>Zz
theorem oC:Al Tryz.prog 116 [.slice none 0 0,.map none,.slice none 0 0,.int .i64 0,.string ⟨#[]⟩,.string ⟨#[]⟩,.string ⟨#[]⟩,.string ⟨#[]⟩,.string ⟨#[]⟩,.string ⟨#[]⟩,.string ⟨#[]⟩,.int .i64 0]:=λ_=>Zz
theorem lS:Al Tryz.prog 130 [.int .i64 0,.string ⟨#[]⟩,.slice none 0 0,.slice none 0 0,.int .i64 0,.string ⟨#[]⟩,.slice none 0 0,.bool false,.bool false,.slice none 0 0,.slice none 0 0,.slice none 0 0,.slice none 0 0,.slice none 0 0,.bool false]:=λ_=>Zz
theorem J6:Al Tryz.prog 132 [.string ⟨#[]⟩,.int .i64 0,.string ⟨#[]⟩,.slice none 0 0,.bool false,.bool false]:=λ_=>Zz
theorem Fu:Al Tryz.prog 143 [.string ⟨#[]⟩,.string ⟨#[]⟩]:=λ_=>Zz
theorem al162:Al Tryz.prog 162 [.map none]:=λ_=>Zz
theorem sW:Al Tryz.prog 164 [.slice none 0 0,.map none]:=λ_=>Zz
theorem Fv:Al Tryz.prog 170 [.string ⟨#[]⟩,.slice none 0 0]:=λ_=>Zz
theorem al188:Al Tryz.prog 188 [.map none]:=λ_=>Zz
theorem q8:Al Tryz.prog 191 [.string ⟨#[]⟩,.string ⟨#[]⟩,.int .i64 0,.string ⟨#[]⟩,.int .i64 0,.slice none 0 0,.string ⟨#[]⟩,.string ⟨#[]⟩,.slice none 0 0,.int .i64 0,.string ⟨#[]⟩,.slice none 0 0,.bool false,.bool false,.slice none 0 0,.slice none 0 0,.slice none 0 0,.int .i64 0]:=λ_=>Zz
theorem al206:Al Tryz.prog 206 [.slice none 0 0,.map none,.string ⟨#[]⟩,.bool false,.slice none 0 0,.slice none 0 0,.slice none 0 0,.slice none 0 0,.slice none 0 0,.slice none 0 0,.map none,.bool false]:=λ_=>Zz
theorem J7:Al Tryz.prog 216 [.int .i64 0,.string ⟨#[]⟩,.int .i64 0,.slice none 0 0]:=λ_=>Zz
theorem J8:Al Tryz.prog 218 [.string ⟨#[]⟩,.int .i64 0,.string ⟨#[]⟩,.int .i64 0,.slice none 0 0]:=λ_=>Zz
theorem al250:Al Tryz.prog 250 [.map none]:=λ_=>Zz
theorem al256:Al Tryz.prog 256 [.nilFunc]:=λ_=>Zz
theorem al265:Al Tryz.prog 265 [.map none]:=λ_=>Zz
theorem en10:Enters Tryz.prog 10:=λ_ _=>Zz
theorem en11:Enters Tryz.prog 11:=λ_ _=>Zz
theorem en12:Enters Tryz.prog 12:=λ_ _=>Zz
theorem en13:Enters Tryz.prog 13:=λ_ _=>Zz
theorem en14:Enters Tryz.prog 14:=λ_ _=>Zz
theorem en15:Enters Tryz.prog 15:=λ_ _=>Zz
theorem en16:Enters Tryz.prog 16:=λ_ _=>Zz
theorem en18:Enters Tryz.prog 18:=λ_ _=>Zz
theorem en27:Enters Tryz.prog 27:=λ_ _=>Zz
theorem en29:Enters Tryz.prog 29:=λ_ _=>Zz
theorem en30:Enters Tryz.prog 30:=λ_ _=>Zz
theorem en31:Enters Tryz.prog 31:=λ_ _=>Zz
theorem en33:Enters Tryz.prog 33:=λ_ _=>Zz
theorem en35:Enters Tryz.prog 35:=λ_ _=>Zz
theorem en38:Enters Tryz.prog 38:=λ_ _=>Zz
theorem en39:Enters Tryz.prog 39:=λ_ _=>Zz
theorem en40:Enters Tryz.prog 40:=λ_ _=>Zz
theorem en41:Enters Tryz.prog 41:=λ_ _=>Zz
theorem D5:Enters Tryz.prog 42:=λ_ _=>Zz
theorem en44:Enters Tryz.prog 44:=λ_ _=>Zz
theorem en45:Enters Tryz.prog 45:=λ_ _=>Zz
theorem en46:Enters Tryz.prog 46:=λ_ _=>Zz
theorem en47:Enters Tryz.prog 47:=λ_ _=>Zz
theorem en48:Enters Tryz.prog 48:=λ_ _=>Zz
theorem en49:Enters Tryz.prog 49:=λ_ _=>Zz
theorem en50:Enters Tryz.prog 50:=λ_ _=>Zz
theorem en51:Enters Tryz.prog 51:=λ_ _=>Zz
theorem en52:Enters Tryz.prog 52:=λ_ _=>Zz
theorem en53:Enters Tryz.prog 53:=λ_ _=>Zz
theorem en54:Enters Tryz.prog 54:=λ_ _=>Zz
theorem en55:Enters Tryz.prog 55:=λ_ _=>Zz
theorem en56:Enters Tryz.prog 56:=λ_ _=>Zz
theorem en57:Enters Tryz.prog 57:=λ_ _=>Zz
theorem en58:Enters Tryz.prog 58:=λ_ _=>Zz
theorem en59:Enters Tryz.prog 59:=λ_ _=>Zz
theorem en60:Enters Tryz.prog 60:=λ_ _=>Zz
theorem en61:Enters Tryz.prog 61:=λ_ _=>Zz
theorem en62:Enters Tryz.prog 62:=λ_ _=>Zz
theorem en63:Enters Tryz.prog 63:=λ_ _=>Zz
theorem en64:Enters Tryz.prog 64:=λ_ _=>Zz
theorem en73:Enters Tryz.prog 73:=λ_ _=>Zz
theorem en91:Enters Tryz.prog 91:=λ_ _=>Zz
theorem en92:Enters Tryz.prog 92:=λ_ _=>Zz
theorem en93:Enters Tryz.prog 93:=λ_ _=>Zz
theorem en96:Enters Tryz.prog 96:=λ_ _=>Zz
theorem en97:Enters Tryz.prog 97:=λ_ _=>Zz
theorem en98:Enters Tryz.prog 98:=λ_ _=>Zz
theorem en99:Enters Tryz.prog 99:=λ_ _=>Zz
theorem en100:Enters Tryz.prog 100:=λ_ _=>Zz
theorem en101:Enters Tryz.prog 101:=λ_ _=>Zz
theorem Fy:Enters Tryz.prog 102:=λ_ _=>Zz
theorem en103:Enters Tryz.prog 103:=λ_ _=>Zz
theorem en104:Enters Tryz.prog 104:=λ_ _=>Zz
theorem en105:Enters Tryz.prog 105:=λ_ _=>Zz
theorem en106:Enters Tryz.prog 106:=λ_ _=>Zz
theorem en107:Enters Tryz.prog 107:=λ_ _=>Zz
theorem en108:Enters Tryz.prog 108:=λ_ _=>Zz
theorem en109:Enters Tryz.prog 109:=λ_ _=>Zz
theorem en110:Enters Tryz.prog 110:=λ_ _=>Zz
theorem xM:Enters Tryz.prog 111:=λ_ _=>Zz
theorem en112:Enters Tryz.prog 112:=λ_ _=>Zz
theorem J9:Enters Tryz.prog 113:=λ_ _=>Zz
theorem Ka:Enters Tryz.prog 114:=λ_ _=>Zz
theorem Kb:Enters Tryz.prog 115:=λ_ _=>Zz
theorem en116:Enters Tryz.prog 116:=λ_ _=>Zz
theorem en117:Enters Tryz.prog 117:=λ_ _=>Zz
theorem en118:Enters Tryz.prog 118:=λ_ _=>Zz
theorem en119:Enters Tryz.prog 119:=λ_ _=>Zz
theorem en120:Enters Tryz.prog 120:=λ_ _=>Zz
theorem en121:Enters Tryz.prog 121:=λ_ _=>Zz
theorem en122:Enters Tryz.prog 122:=λ_ _=>Zz
theorem en123:Enters Tryz.prog 123:=λ_ _=>Zz
theorem en124:Enters Tryz.prog 124:=λ_ _=>Zz
theorem Kc:Enters Tryz.prog 126:=λ_ _=>Zz
theorem en128:Enters Tryz.prog 128:=λ_ _=>Zz
theorem en129:Enters Tryz.prog 129:=λ_ _=>Zz
theorem en130:Enters Tryz.prog 130:=λ_ _=>Zz
theorem en131:Enters Tryz.prog 131:=λ_ _=>Zz
theorem en132:Enters Tryz.prog 132:=λ_ _=>Zz
theorem en133:Enters Tryz.prog 133:=λ_ _=>Zz
theorem en134:Enters Tryz.prog 134:=λ_ _=>Zz
theorem en135:Enters Tryz.prog 135:=λ_ _=>Zz
theorem en136:Enters Tryz.prog 136:=λ_ _=>Zz
theorem en137:Enters Tryz.prog 137:=λ_ _=>Zz
theorem en138:Enters Tryz.prog 138:=λ_ _=>Zz
theorem en139:Enters Tryz.prog 139:=λ_ _=>Zz
theorem en140:Enters Tryz.prog 140:=λ_ _=>Zz
theorem en141:Enters Tryz.prog 141:=λ_ _=>Zz
theorem en142:Enters Tryz.prog 142:=λ_ _=>Zz
theorem en143:Enters Tryz.prog 143:=λ_ _=>Zz
theorem en144:Enters Tryz.prog 144:=λ_ _=>Zz
theorem en145:Enters Tryz.prog 145:=λ_ _=>Zz
theorem en146:Enters Tryz.prog 146:=λ_ _=>Zz
theorem en147:Enters Tryz.prog 147:=λ_ _=>Zz
theorem en148:Enters Tryz.prog 148:=λ_ _=>Zz
theorem en149:Enters Tryz.prog 149:=λ_ _=>Zz
theorem en150:Enters Tryz.prog 150:=λ_ _=>Zz
theorem en151:Enters Tryz.prog 151:=λ_ _=>Zz
theorem en153:Enters Tryz.prog 153:=λ_ _=>Zz
theorem en160:Enters Tryz.prog 160:=λ_ _=>Zz
theorem en163:Enters Tryz.prog 163:=λ_ _=>Zz
theorem en166:Enters Tryz.prog 166:=λ_ _=>Zz
theorem en167:Enters Tryz.prog 167:=λ_ _=>Zz
theorem en168:Enters Tryz.prog 168:=λ_ _=>Zz
theorem en169:Enters Tryz.prog 169:=λ_ _=>Zz
theorem en170:Enters Tryz.prog 170:=λ_ _=>Zz
theorem en171:Enters Tryz.prog 171:=λ_ _=>Zz
theorem en172:Enters Tryz.prog 172:=λ_ _=>Zz
theorem en173:Enters Tryz.prog 173:=λ_ _=>Zz
theorem Ke:Enters Tryz.prog 174:=λ_ _=>Zz
theorem en175:Enters Tryz.prog 175:=λ_ _=>Zz
theorem en176:Enters Tryz.prog 176:=λ_ _=>Zz
theorem en177:Enters Tryz.prog 177:=λ_ _=>Zz
theorem Fz:Enters Tryz.prog 178:=λ_ _=>Zz
theorem en179:Enters Tryz.prog 179:=λ_ _=>Zz
theorem en180:Enters Tryz.prog 180:=λ_ _=>Zz
theorem en181:Enters Tryz.prog 181:=λ_ _=>Zz
theorem Kg:Enters Tryz.prog 182:=λ_ _=>Zz
theorem en183:Enters Tryz.prog 183:=λ_ _=>Zz
theorem en184:Enters Tryz.prog 184:=λ_ _=>Zz
theorem en185:Enters Tryz.prog 185:=λ_ _=>Zz
theorem en186:Enters Tryz.prog 186:=λ_ _=>Zz
theorem en187:Enters Tryz.prog 187:=λ_ _=>Zz
theorem en188:Enters Tryz.prog 188:=λ_ _=>Zz
theorem en189:Enters Tryz.prog 189:=λ_ _=>Zz
theorem en190:Enters Tryz.prog 190:=λ_ _=>Zz
theorem en191:Enters Tryz.prog 191:=λ_ _=>Zz
theorem en192:Enters Tryz.prog 192:=λ_ _=>Zz
theorem en193:Enters Tryz.prog 193:=λ_ _=>Zz
theorem en194:Enters Tryz.prog 194:=λ_ _=>Zz
theorem FB:Enters Tryz.prog 195:=λ_ _=>Zz
theorem qo:Enters Tryz.prog 196:=λ_ _=>Zz
theorem en197:Enters Tryz.prog 197:=λ_ _=>Zz
theorem en199:Enters Tryz.prog 199:=λ_ _=>Zz
theorem en200:Enters Tryz.prog 200:=λ_ _=>Zz
theorem en203:Enters Tryz.prog 203:=λ_ _=>Zz
theorem jZ:Enters Tryz.prog 204:=λ_ _=>Zz
theorem en205:Enters Tryz.prog 205:=λ_ _=>Zz
theorem Kh:Enters Tryz.prog 206:=λ_ _=>Zz
theorem en207:Enters Tryz.prog 207:=λ_ _=>Zz
theorem en208:Enters Tryz.prog 208:=λ_ _=>Zz
theorem en209:Enters Tryz.prog 209:=λ_ _=>Zz
theorem en210:Enters Tryz.prog 210:=λ_ _=>Zz
theorem en211:Enters Tryz.prog 211:=λ_ _=>Zz
theorem en212:Enters Tryz.prog 212:=λ_ _=>Zz
theorem en213:Enters Tryz.prog 213:=λ_ _=>Zz
theorem FD:Enters Tryz.prog 214:=λ_ _=>Zz
theorem en215:Enters Tryz.prog 215:=λ_ _=>Zz
theorem en216:Enters Tryz.prog 216:=λ_ _=>Zz
theorem en217:Enters Tryz.prog 217:=λ_ _=>Zz
theorem en218:Enters Tryz.prog 218:=λ_ _=>Zz
theorem en219:Enters Tryz.prog 219:=λ_ _=>Zz
theorem en220:Enters Tryz.prog 220:=λ_ _=>Zz
theorem en221:Enters Tryz.prog 221:=λ_ _=>Zz
theorem en222:Enters Tryz.prog 222:=λ_ _=>Zz
theorem en223:Enters Tryz.prog 223:=λ_ _=>Zz
theorem en224:Enters Tryz.prog 224:=λ_ _=>Zz
theorem en225:Enters Tryz.prog 225:=λ_ _=>Zz
theorem en226:Enters Tryz.prog 226:=λ_ _=>Zz
theorem en227:Enters Tryz.prog 227:=λ_ _=>Zz
theorem en228:Enters Tryz.prog 228:=λ_ _=>Zz
theorem en229:Enters Tryz.prog 229:=λ_ _=>Zz
theorem en231:Enters Tryz.prog 231:=λ_ _=>Zz
theorem en235:Enters Tryz.prog 235:=λ_ _=>Zz
theorem en236:Enters Tryz.prog 236:=λ_ _=>Zz
theorem en237:Enters Tryz.prog 237:=λ_ _=>Zz
theorem en241:Enters Tryz.prog 241:=λ_ _=>Zz
theorem FE:Enters Tryz.prog 242:=λ_ _=>Zz
theorem en243:Enters Tryz.prog 243:=λ_ _=>Zz
theorem en244:Enters Tryz.prog 244:=λ_ _=>Zz
theorem en245:Enters Tryz.prog 245:=λ_ _=>Zz
theorem en246:Enters Tryz.prog 246:=λ_ _=>Zz
theorem en247:Enters Tryz.prog 247:=λ_ _=>Zz
theorem en248:Enters Tryz.prog 248:=λ_ _=>Zz
theorem en260:Enters Tryz.prog 260:=λ_ _=>Zz
theorem en261:Enters Tryz.prog 261:=λ_ _=>Zz
theorem en262:Enters Tryz.prog 262:=λ_ _=>Zz
theorem en263:Enters Tryz.prog 263:=λ_ _=>Zz
theorem en264:Enters Tryz.prog 264:=λ_ _=>Zz
theorem en265:Enters Tryz.prog 265:=λ_ _=>Zz
theorem en266:Enters Tryz.prog 266:=λ_ _=>Zz
theorem en267:Enters Tryz.prog 267:=λ_ _=>Zz
theorem en268:Enters Tryz.prog 268:=λ_ _=>Zz
theorem en269:Enters Tryz.prog 269:=λ_ _=>Zz
theorem en270:Enters Tryz.prog 270:=λ_ _=>Zz
theorem en271:Enters Tryz.prog 271:=λ_ _=>Zz
theorem en272:Enters Tryz.prog 272:=λ_ _=>Zz
theorem en278:Enters Tryz.prog 278:=λ_ _=>Zz
theorem en279:Enters Tryz.prog 279:=λ_ _=>Zz
theorem en280:Enters Tryz.prog 280:=λ_ _=>Zz
theorem en294:Enters Tryz.prog 294:=λ_ _=>Zz
theorem en296:Enters Tryz.prog 296:=λ_ _=>Zz
theorem en297:Enters Tryz.prog 297:=λ_ _=>Zz
end Fx
end Go.Proofs.YtknmacdbffgjgaaGreatDoor
namespace Go.Ck
open Go Go.RowKit

def OpenRow (v:Value) (sz n:Nat) (l:List Value) (b cp:Nat) (j:List Value):Prop:=v = .slice (some ⟨b,0,none⟩) n cp/\l.length=n * sz/\n≤cp/\cp≤maxLen/\(l++j).length=cp * sz
section
variable {c:Cx} {Q:Exit->Act->World->Prop} {e:Env} {h h':SH} {x:Code} {v:Value} {E:TypeId} {sz n:Nat} {l l':List Value}
end
end Go.Ck
namespace Go.Hr
open Go
inductive Kt
 | mk (kind:Int) (name:Nm) (args:List Kt) (void sep:Bool)
namespace Kt
def kind:Kt->Int | .mk k _ _ _ _=>k
def name:Kt->Nm | .mk _ n _ _ _=>n
def args:Kt->List Kt | .mk _ _ az _ _=>az
def void:Kt->Bool | .mk _ _ _ v _=>v
def sep:Kt->Bool | .mk _ _ _ _ s=>s
theorem ext {t u:Kt} (h1:t.kind=u.kind) (h2:t.name=u.name) (h3:t.args=u.args) (h4:t.void=u.void) (h5:t.sep=u.sep):t=u:=by
 cases t; cases u; simp only [kind,name,args,void,sep] at *; subst h1 h2 h3 h4 h5; rfl
end Kt
mutual
def Kt.same:Kt->Kt->Bool
 | .mk k n az v s,.mk k' n' az' v' s'=>k == k' && n == n' && v == v' && s == s' && zN az az'
def zN:List Kt->List Kt->Bool
 | [],[]=>true
 | a::t,b::u=>a.same b && zN t u
 | [],_::_=>false
 | _::_,[]=>false
end
mutual
theorem same_iff:∀ (a b:Kt),a.same b=true↔a=b
 | .mk k n az v s,.mk k' n' az' v' s'=>by
  simp only [Kt.same,Bool.and_eq_true,beq_iff_eq,Cs az az',Kt.mk.injEq]
  constructor
  ·rintro ⟨⟨⟨⟨h1,h2⟩,h3⟩,h4⟩,h5⟩; exact ⟨h1,h2,h5,h3,h4⟩
  ·rintro ⟨h1,h2,h5,h3,h4⟩; exact ⟨⟨⟨⟨h1,h2⟩,h3⟩,h4⟩,h5⟩
theorem Cs:∀ (a b:List Kt),zN a b=true↔a=b
 | [],[]=>by simp [zN]
 | a::t,b::u=>by simp only [zN,Bool.and_eq_true,same_iff a b,Cs t u,List.cons.injEq]
 | [],_::_=>by simp [zN]
 | _::_,[]=>by simp [zN]
end
instance:DecidableEq Kt:=λa b=>decidable_of_iff _ (same_iff a b)
mutual
def Kt.depth:Kt->Nat
 | .mk _ _ az _ _=>zO az+1
def zO:List Kt->Nat
 | []=>0
 | a::t=>max a.depth (zO t)
end
theorem pF:∀ {l:List Kt} {t:Kt},t∈l->t.depth≤zO l
 | a::l,t,h=>by
  unfold zO
  rcases List.mem_cons.1 h with rfl | h
  ·omega
  ·have:=pF h; omega
theorem jM {t a:Kt} (h:a∈t.args):a.depth<t.depth:=by
 cases t
 have:=pF h
 simp only [Kt.args] at this
 show a.depth<zO _+1; omega
mutual
def Kt.parts:Kt->Nat
 | .mk _ _ az _ _=>1+Ns az
def Ns:List Kt->Nat
 | []=>0
 | a::t=>a.parts+Ns t
end
structure Fm where
 name:Nm
 bound:Nm
def D6 (F:List Fm) (n:Nm):Option Nat:=F.findIdx? λf=>f.name == n
def Kt.flag (t:Kt) (v s:Bool):Kt:=.mk t.kind t.name t.args (t.void || v) (t.sep || s)
def Kt.with (t:Kt) (v s:Bool):Kt:=.mk t.kind t.name t.args v s
def oD (F:List Fm) (A:List Kt) (n:Nm):Option Kt:=(D6 F n).bind λi=>A[i]?
mutual
def Kt.subst (F:List Fm) (A:List Kt):Kt->Kt
 | .mk k n az v s=>if k=4 then (match oD F A n with | some t=>t.flag v s | none=>.mk k n az v s) else if k=3 then .mk k n (D7 F A az) v s else .mk k n az v s
def D7 (F:List Fm) (A:List Kt):List Kt->List Kt
 | []=>[]
 | a::t=>a.subst F A::D7 F A t
end
section
variable {F G:List Fm} {A B:List Kt}
theorem zP:∀ (l:List Kt),D7 F A l=l.map (Kt.subst F A)
 | []=>rfl
 | a::t=>by rw [D7,zP t]; rfl
theorem D8 {n:Nm} {az:List Kt} {v s:Bool}:Kt.subst F A (.mk 4 n az v s)=(match oD F A n with | some t=>t.flag v s | none=>.mk 4 n az v s):=by
 rw [Kt.subst,if_pos rfl]
theorem FH {n:Nm} {az:List Kt} {v s:Bool}:Kt.subst F A (.mk 3 n az v s) = .mk 3 n (az.map (Kt.subst F A)) v s:=by
 rw [Kt.subst,if_neg (by decide),if_pos rfl,zP]
inductive Cl (F:List Fm) (m:Nat):Kt->Prop
 | fml {n:Nm} {v s:Bool} {i:Nat}:D6 F n=some i->i<m->Cl F m (.mk 4 n [] v s)
 | cls {n:Nm} {az:List Kt} {v s:Bool}:(∀ a∈az,Cl F m a)->Cl F m (.mk 3 n az v s)
theorem Ii {n:Nm} {i:Nat} (h:D6 F n=some i) (hi:i<A.length):oD F A n=some A[i]:=by
 unfold oD; rw [h,Option.bind_some,List.getElem?_eq_getElem hi]
theorem Cl.subst {t:Kt} {m:Nat} (h:Cl G B.length t) (hB:∀ b∈B,Cl F m b):Cl F m (t.subst G B):=by
 induction h with
 | @fml n v s i hi hl =>
  rw [D8,Ii hi hl]
  have:=hB B[i]<|List.getElem_mem hl
  generalize B[i]=b at this
  cases this with
  | fml h1 h2=>exact .fml h1 h2
  | cls h1=>exact .cls h1
 | @cls n az v s _ ih =>
  rw [FH]
  refine .cls λa ha=>?_
  obtain ⟨a',h1,rfl⟩:=List.mem_map.1 ha
  exact ih a' h1
def ownT (F:List Fm):List Kt:=F.map λf=>.mk 4 f.name [] false false
end
end Go.Hr
